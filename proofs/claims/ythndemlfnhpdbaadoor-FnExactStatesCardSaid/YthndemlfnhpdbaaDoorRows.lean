/-
  NARROWER THAN 'FOR EVERY INPUT', by the rows' own cells (each row's printed sentence says how): FnExactCheckCode: maps, laid · FnExactStates: maps, laid.
  DERIVED. THE GIVEN ROWS OF THIS SEAT. 2 by the template 'for every input the law returns true; each argument reads behind the call as it read before'; 0 by the template 'total and deterministic' (their statements: YthndemlfnhpdbaaDoorTotals.lean).
  GIVEN WITH THE SEED: the statements are not yours to turn. If you find one false, say at which input.
  Laid BY PROGRAM, IN A SANDBOX (cutbox-rows.mjs): the forced cells as the released guide's own fill.sh prints them over the translation d0102733e262c399… (all of the seat's roots in one cut). By AI agents, Wed Nov 11 2026. No macro, syntax, notation, axiom, sorry.
-/
import Derived.Test.YthndemlfnhpdbaaDoorChecked
import GoSem.Claim
import GoSem.ClaimJoined
import GoSem.ClaimMapViews
import Derived.JoinedTies
import Derived.KernelRfl
namespace Go.Proofs.YthndemlfnhpdbaaDoor
/- THE CELL 'sum', in the pinned program and in every row, IS THE sha256 OF THE DUMP (.gsa) THAT YthndemlfnhpdbaaDoorProg.lean LOADS. Nothing in Lean hashes anything: it is a label: what it is worth is what the hold of that sum in a sandbox is worth. -/
noncomputable def Tryd.pinned : Pinned := { name := "ythndemlfnhpdbaadoor", sum := "d0102733e262c3990c305cfe49f445c3c67caaf78f745a53b72d4ffa599df9ec", checked := Tryd.checked }
namespace Rows
def none {H : Type} : Left H := { results := [], args := [] }

/- WHAT THE LISTED PACKAGE-LEVEL VARIABLES READ AS WHEN THE CALL BEGINS. Each datum BY PROGRAM (the guide's laid-datum.mjs) off the statement by which the dump's own 'gosem.cut.vars' lays the variable. In a bare row this is a premise. The card (YthndemlfnhpdbaaDoorCards.lean) ties it to the program's text. -/
def laid_loop_example_draft_impl_roles {H : Type} : DataW H := .map [(.int .i64 1, .agg [.lit (.int .i64 7), .lit (.int .i64 0), .lit (.int .i64 0), .lit (.int .i64 0)]), (.int .i64 2, .agg [.lit (.int .i64 8), .lit (.int .i64 0), .lit (.int .i64 0), .lit (.int .i64 0)]), (.int .i64 3, .agg [.lit (.int .i64 0), .lit (.int .i64 0), .lit (.int .i64 0), .lit (.int .i64 0)]), (.int .i64 4, .agg [.lit (.int .i64 1), .lit (.int .i64 9), .lit (.int .i64 0), .lit (.int .i64 0)]), (.int .i64 5, .agg [.lit (.int .i64 1), .lit (.int .i64 2), .lit (.int .i64 0), .lit (.int .i64 0)]), (.int .i64 6, .agg [.lit (.int .i64 1), .lit (.int .i64 2), .lit (.int .i64 0), .lit (.int .i64 0)]), (.int .i64 7, .agg [.lit (.int .i64 1), .lit (.int .i64 5), .lit (.int .i64 0), .lit (.int .i64 0)]), (.int .i64 8, .agg [.lit (.int .i64 5), .lit (.int .i64 2), .lit (.int .i64 0), .lit (.int .i64 0)]), (.int .i64 9, .agg [.lit (.int .i64 1), .lit (.int .i64 10), .lit (.int .i64 0), .lit (.int .i64 0)]), (.int .i64 10, .agg [.lit (.int .i64 10), .lit (.int .i64 2), .lit (.int .i64 0), .lit (.int .i64 0)]), (.int .i64 11, .agg [.lit (.int .i64 1), .lit (.int .i64 11), .lit (.int .i64 0), .lit (.int .i64 0)]), (.int .i64 12, .agg [.lit (.int .i64 1), .lit (.int .i64 0), .lit (.int .i64 0), .lit (.int .i64 0)]), (.int .i64 13, .agg [.lit (.int .i64 4), .lit (.int .i64 2), .lit (.int .i64 2), .lit (.int .i64 0)]), (.int .i64 14, .agg [.lit (.int .i64 4), .lit (.int .i64 2), .lit (.int .i64 3), .lit (.int .i64 0)]), (.int .i64 15, .agg [.lit (.int .i64 1), .lit (.int .i64 2), .lit (.int .i64 2), .lit (.int .i64 0)]), (.int .i64 16, .agg [.lit (.int .i64 2), .lit (.int .i64 2), .lit (.int .i64 2), .lit (.int .i64 0)]), (.int .i64 17, .agg [.lit (.int .i64 1), .lit (.int .i64 14), .lit (.int .i64 2), .lit (.int .i64 0)]), (.int .i64 18, .agg [.lit (.int .i64 1), .lit (.int .i64 13), .lit (.int .i64 2), .lit (.int .i64 2)]), (.int .i64 19, .agg [.lit (.int .i64 12), .lit (.int .i64 0), .lit (.int .i64 0), .lit (.int .i64 0)]), (.int .i64 20, .agg [.lit (.int .i64 2), .lit (.int .i64 12), .lit (.int .i64 0), .lit (.int .i64 0)]), (.int .i64 21, .agg [.lit (.int .i64 2), .lit (.int .i64 12), .lit (.int .i64 0), .lit (.int .i64 0)]), (.int .i64 22, .agg [.lit (.int .i64 1), .lit (.int .i64 0), .lit (.int .i64 0), .lit (.int .i64 0)]), (.int .i64 23, .agg [.lit (.int .i64 6), .lit (.int .i64 2), .lit (.int .i64 0), .lit (.int .i64 0)]), (.int .i64 24, .agg [.lit (.int .i64 6), .lit (.int .i64 3), .lit (.int .i64 0), .lit (.int .i64 0)]), (.int .i64 25, .agg [.lit (.int .i64 1), .lit (.int .i64 3), .lit (.int .i64 0), .lit (.int .i64 0)]), (.int .i64 26, .agg [.lit (.int .i64 1), .lit (.int .i64 6), .lit (.int .i64 15), .lit (.int .i64 0)]), (.int .i64 27, .agg [.lit (.int .i64 1), .lit (.int .i64 6), .lit (.int .i64 0), .lit (.int .i64 0)]), (.int .i64 28, .agg [.lit (.int .i64 1), .lit (.int .i64 2), .lit (.int .i64 3), .lit (.int .i64 0)]), (.int .i64 29, .agg [.lit (.int .i64 3), .lit (.int .i64 0), .lit (.int .i64 0), .lit (.int .i64 0)]), (.int .i64 30, .agg [.lit (.int .i64 2), .lit (.int .i64 0), .lit (.int .i64 0), .lit (.int .i64 0)]), (.int .i64 31, .agg [.lit (.int .i64 12), .lit (.int .i64 17), .lit (.int .i64 0), .lit (.int .i64 0)]), (.int .i64 32, .agg [.lit (.int .i64 0), .lit (.int .i64 0), .lit (.int .i64 0), .lit (.int .i64 0)]), (.int .i64 33, .agg [.lit (.int .i64 16), .lit (.int .i64 0), .lit (.int .i64 0), .lit (.int .i64 0)]), (.int .i64 34, .agg [.lit (.int .i64 16), .lit (.int .i64 0), .lit (.int .i64 0), .lit (.int .i64 0)]), (.int .i64 35, .agg [.lit (.int .i64 2), .lit (.int .i64 3), .lit (.int .i64 0), .lit (.int .i64 0)]), (.int .i64 36, .agg [.lit (.int .i64 0), .lit (.int .i64 0), .lit (.int .i64 0), .lit (.int .i64 0)]), (.int .i64 37, .agg [.lit (.int .i64 18), .lit (.int .i64 0), .lit (.int .i64 0), .lit (.int .i64 0)]), (.int .i64 38, .agg [.lit (.int .i64 18), .lit (.int .i64 12), .lit (.int .i64 0), .lit (.int .i64 0)]), (.int .i64 39, .agg [.lit (.int .i64 18), .lit (.int .i64 12), .lit (.int .i64 0), .lit (.int .i64 0)]), (.int .i64 40, .agg [.lit (.int .i64 19), .lit (.int .i64 0), .lit (.int .i64 0), .lit (.int .i64 0)]), (.int .i64 41, .agg [.lit (.int .i64 20), .lit (.int .i64 12), .lit (.int .i64 1), .lit (.int .i64 0)]), (.int .i64 42, .agg [.lit (.int .i64 1), .lit (.int .i64 0), .lit (.int .i64 0), .lit (.int .i64 0)])]

/-- 'laws.FnExactCheckCode': WHATEVER THE INPUT: true; the input reads as it did. -/
def fnExactCheckCodeSpec : ChangeSpec := { name := "fnExactCheckCode", vars := ["loop.example/draft/impl.roles"], fn := fun _ => fun
  | [d, g1] => { results := [.lit (.bool true)], args := [d], vars := [g1] }
  | _ => none }
def fnExactCheckCodeRow : OpenClaim := { program := "ythndemlfnhpdbaadoor", sum := "d0102733e262c3990c305cfe49f445c3c67caaf78f745a53b72d4ffa599df9ec", func := "loop.example/draft/laws.FnExactCheckCode", spec := "fnExactCheckCode", inPlace := ["math.Float64bits"], unfollowed := true, recurses := true, named := ["loop.example/draft/impl.roles"], maps := true, apart := false, laid := [("loop.example/draft/impl.roles", laid_loop_example_draft_impl_roles)] }
def FnExactCheckCodeSaid : Prop := fnExactCheckCodeRow.holds Tryd.pinned (OpenSpec.ofChange fnExactCheckCodeSpec)

/-- ITS FALSE NEIGHBOUR: 'it returns false'. Refute it at one input. -/
def fnExactCheckCodeWrong : ChangeSpec := { name := "fnExactCheckCode", vars := ["loop.example/draft/impl.roles"], fn := fun _ => fun
  | [d, g1] => { results := [.lit (.bool false)], args := [d], vars := [g1] }
  | _ => none }
def FnExactCheckCodeWrongFalsely : Prop := fnExactCheckCodeRow.holds Tryd.pinned (OpenSpec.ofChange fnExactCheckCodeWrong)

/-- 'laws.FnExactStates': WHATEVER THE INPUT: true; the input reads as it did. -/
def fnExactStatesSpec : ChangeSpec := { name := "fnExactStates", vars := ["loop.example/draft/impl.roles"], fn := fun _ => fun
  | [d1, d2, g1] => { results := [.lit (.bool true)], args := [d1, d2], vars := [g1] }
  | _ => none }
def fnExactStatesRow : OpenClaim := { program := "ythndemlfnhpdbaadoor", sum := "d0102733e262c3990c305cfe49f445c3c67caaf78f745a53b72d4ffa599df9ec", func := "loop.example/draft/laws.FnExactStates", spec := "fnExactStates", inPlace := ["math.Float64bits"], unfollowed := true, recurses := true, named := ["loop.example/draft/impl.roles"], maps := true, apart := false, laid := [("loop.example/draft/impl.roles", laid_loop_example_draft_impl_roles)] }
def FnExactStatesSaid : Prop := fnExactStatesRow.holds Tryd.pinned (OpenSpec.ofChange fnExactStatesSpec)

/-- ITS FALSE NEIGHBOUR: 'it returns false'. Refute it at one input. -/
def fnExactStatesWrong : ChangeSpec := { name := "fnExactStates", vars := ["loop.example/draft/impl.roles"], fn := fun _ => fun
  | [d1, d2, g1] => { results := [.lit (.bool false)], args := [d1, d2], vars := [g1] }
  | _ => none }
def FnExactStatesWrongFalsely : Prop := fnExactStatesRow.holds Tryd.pinned (OpenSpec.ofChange fnExactStatesWrong)

/- THE SECOND FORM. 'bulk': how many values and letters a reading holds, each counted each time it is reached (what is shared counts as often as it is met; a slice's spare places count too). A statement '..UptoSaid' is the law's where the arguments, and the package variables that the reading takes, are together of bulk at most 1048576: NARROWER than '..Said'. Prove '..Said' where nothing that the law and all that it calls make is longer than what came in: it says more and counts as full. Else prove '..UptoSaid'. A law counts once. -/
mutual
def uptoBulk {H : Type} : DataW H → Nat
  | .lit (.string bytes) => bytes.length + 1
  | .lit _ => 1
  | .nil => 1
  | .ptr d => uptoBulk d + 1
  | .slice elems spare => uptoBulkAll elems + uptoBulkAll spare + 1
  | .agg parts => uptoBulkAll parts + 1
  | .iface _ d => uptoBulk d + 1
  | .map entries => uptoBulkEntries entries + 1
  | .held _ => 1
def uptoBulkAll {H : Type} : List (DataW H) → Nat
  | [] => 0
  | d :: r => uptoBulk d + uptoBulkAll r
def uptoBulkEntries {H : Type} : List (Lit × DataW H) → Nat
  | [] => 0
  | x :: r => uptoBulkEntry x + uptoBulkEntries r
def uptoBulkEntry {H : Type} : Lit × DataW H → Nat
  | (.string bytes, d) => bytes.length + uptoBulk d + 1
  | (_, d) => uptoBulk d + 1
 end
def uptoSmall : (H : Type) → List (DataW H) → Bool := fun _ ds => decide (uptoBulkAll ds ≤ 1048576)
def OpenSpec.upto (s : _root_.Go.ChangeSpec) : _root_.Go.OpenSpec := { _root_.Go.OpenSpec.ofChange s with cond := some uptoSmall }

/-- 'laws.FnExactCheckCode', WHERE WHAT IT READS IS OF BULK AT MOST 1048576: true; the input reads as it did. -/
def fnExactCheckCodeUptoRow : OpenClaim := { program := "ythndemlfnhpdbaadoor", sum := "d0102733e262c3990c305cfe49f445c3c67caaf78f745a53b72d4ffa599df9ec", func := "loop.example/draft/laws.FnExactCheckCode", spec := "fnExactCheckCode", inPlace := ["math.Float64bits"], unfollowed := true, recurses := true, named := ["loop.example/draft/impl.roles"], maps := true, apart := false, laid := [("loop.example/draft/impl.roles", laid_loop_example_draft_impl_roles)], narrowed := true }
def FnExactCheckCodeUptoSaid : Prop := fnExactCheckCodeUptoRow.holds Tryd.pinned (OpenSpec.upto fnExactCheckCodeSpec)

/-- 'laws.FnExactStates', WHERE WHAT IT READS IS OF BULK AT MOST 1048576: true; the input reads as it did. -/
def fnExactStatesUptoRow : OpenClaim := { program := "ythndemlfnhpdbaadoor", sum := "d0102733e262c3990c305cfe49f445c3c67caaf78f745a53b72d4ffa599df9ec", func := "loop.example/draft/laws.FnExactStates", spec := "fnExactStates", inPlace := ["math.Float64bits"], unfollowed := true, recurses := true, named := ["loop.example/draft/impl.roles"], maps := true, apart := false, laid := [("loop.example/draft/impl.roles", laid_loop_example_draft_impl_roles)], narrowed := true }
def FnExactStatesUptoSaid : Prop := fnExactStatesUptoRow.holds Tryd.pinned (OpenSpec.upto fnExactStatesSpec)

end Rows
end Go.Proofs.YthndemlfnhpdbaaDoor
