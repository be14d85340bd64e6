/-
  DERIVED. GIVEN WITH THE SEED: THE CARDS: each row of YtffiogaamojjeaaDoorRows.lean that lists a variable, with what it lists TIED to the program's text (the seventh form; the later family's looks); each row that meets fmt, with fmt's text TOLD by the authors' own Lean function (tested against real Go, not proved from fmt's source: count such statements apart). THE CARD IS WHAT COUNTS. Prove the row's statement (the work); the ties are given (YtffiogaamojjeaaDoorTie.lean); close each card by the builder's one call (the guide's Derived/Test/ToyasCard.lean, 'card_holds'). Laid BY PROGRAM, IN A SANDBOX (cutbox-door.mjs). By AI agents, Wed Nov 11 2026. No macro, syntax, notation, axiom, sorry.
-/
import Derived.Test.YtffiogaamojjeaaDoorRows
import GoSem.ClaimSeven
namespace Go.Proofs.YtffiogaamojjeaaDoor
namespace Rows

/-- THE TIED CARD OF 'laws.FnExactCheckShape'. -/
def fnExactCheckShapeCard : Claim7 := { stood := { row := fnExactCheckShapeRow, standIns := [], harness := (true, "2ba2b57d82d3079f39bd2012872b2710cb67e5895842a02839373a290951b7af"), looks := false }, kinds := [], alts := [], laidByText := true, laidKinds := [.mapped], laidTests := true, laidLooks := .later }
def FnExactCheckShapeCardSaid : Prop := Claim7.holds Tryd.pinned (.plain (OpenSpec.ofChange fnExactCheckShapeSpec)) fnExactCheckShapeCard

/-- THE SECOND FORM's CARD OF 'laws.FnExactCheckShape'. -/
def fnExactCheckShapeUptoCard : Claim7 := { stood := { row := fnExactCheckShapeUptoRow, standIns := [], harness := (true, "2ba2b57d82d3079f39bd2012872b2710cb67e5895842a02839373a290951b7af"), looks := false }, kinds := [], alts := [], laidByText := true, laidKinds := [.mapped], laidTests := true, laidLooks := .later }
def FnExactCheckShapeUptoCardSaid : Prop := Claim7.holds Tryd.pinned (.plain (OpenSpec.upto fnExactCheckShapeSpec)) fnExactCheckShapeUptoCard
end Rows
end Go.Proofs.YtffiogaamojjeaaDoor
