/-
  DERIVED. GIVEN WITH THE SEED: THE CARDS: each row of YthndemlfnhpdbaaDoorRows.lean that lists a variable, with what it lists TIED to the program's text (the seventh form; the later family's looks); each row that meets fmt, with fmt's text TOLD by the authors' own Lean function (tested against real Go, not proved from fmt's source: count such statements apart). THE CARD IS WHAT COUNTS. Prove the row's statement (the work); the ties are given (YthndemlfnhpdbaaDoorTie.lean); close each card by the builder's one call (the guide's Derived/Test/ToyasCard.lean, 'card_holds'). Laid BY PROGRAM, IN A SANDBOX (cutbox-door.mjs). By AI agents, Wed Nov 11 2026. No macro, syntax, notation, axiom, sorry.
-/
import Derived.Test.YthndemlfnhpdbaaDoorRows
import GoSem.ClaimSeven
namespace Go.Proofs.YthndemlfnhpdbaaDoor
namespace Rows

/-- THE TIED CARD OF 'laws.FnExactCheckCode'. -/
def fnExactCheckCodeCard : Claim7 := { stood := { row := fnExactCheckCodeRow, standIns := [], harness := (true, "d5ff1d5aac43c328e661517921f23f721f2f4df74f2f5475d8ffba0616ca11f6"), looks := false }, kinds := [], alts := [], laidByText := true, laidKinds := [.mapped], laidTests := true, laidLooks := .later }
def FnExactCheckCodeCardSaid : Prop := Claim7.holds Tryd.pinned (.plain (OpenSpec.ofChange fnExactCheckCodeSpec)) fnExactCheckCodeCard

/-- THE TIED CARD OF 'laws.FnExactStates'. -/
def fnExactStatesCard : Claim7 := { stood := { row := fnExactStatesRow, standIns := [], harness := (true, "d5ff1d5aac43c328e661517921f23f721f2f4df74f2f5475d8ffba0616ca11f6"), looks := false }, kinds := [], alts := [], laidByText := true, laidKinds := [.mapped], laidTests := true, laidLooks := .later }
def FnExactStatesCardSaid : Prop := Claim7.holds Tryd.pinned (.plain (OpenSpec.ofChange fnExactStatesSpec)) fnExactStatesCard

/-- THE SECOND FORM's CARD OF 'laws.FnExactCheckCode'. -/
def fnExactCheckCodeUptoCard : Claim7 := { stood := { row := fnExactCheckCodeUptoRow, standIns := [], harness := (true, "d5ff1d5aac43c328e661517921f23f721f2f4df74f2f5475d8ffba0616ca11f6"), looks := false }, kinds := [], alts := [], laidByText := true, laidKinds := [.mapped], laidTests := true, laidLooks := .later }
def FnExactCheckCodeUptoCardSaid : Prop := Claim7.holds Tryd.pinned (.plain (OpenSpec.upto fnExactCheckCodeSpec)) fnExactCheckCodeUptoCard

/-- THE SECOND FORM's CARD OF 'laws.FnExactStates'. -/
def fnExactStatesUptoCard : Claim7 := { stood := { row := fnExactStatesUptoRow, standIns := [], harness := (true, "d5ff1d5aac43c328e661517921f23f721f2f4df74f2f5475d8ffba0616ca11f6"), looks := false }, kinds := [], alts := [], laidByText := true, laidKinds := [.mapped], laidTests := true, laidLooks := .later }
def FnExactStatesUptoCardSaid : Prop := Claim7.holds Tryd.pinned (.plain (OpenSpec.upto fnExactStatesSpec)) fnExactStatesUptoCard
end Rows
end Go.Proofs.YthndemlfnhpdbaaDoor
