/- What the functions of CheckShape compute, by the evaluator. No condition. -/
import Derived.Test.YtffiogaamojjeaaDoorCodes
set_option linter.all false
section
attribute [local congr] ite_congr
set_option linter.unusedSimpArgs false
set_option linter.unusedVariables false
set_option maxRecDepth 10000
set_option maxHeartbeats 1000000
namespace Go.Proofs.Tryd.Av
open Go Go.Av Classical
abbrev ints (ks : List Int) : PV := .fz (ks.map fun k => [.int .i64 k])
structure Up where
  Local : Bool
  Index : Int
  deriving Inhabited
structure Val where
  Kind : Int
  Num : Int
  Flt : Nat
  Str : ByteArray
  Ref : Int
  deriving Inhabited
structure Ins where
  Op : Int
  A : Int
  B : Int
  C : Int
  D : Int
  deriving Inhabited
structure Nmd where
  Name : ByteArray
  Reg : Int
  From : Int
  To : Int
  deriving Inhabited
structure Proto where
  Name : ByteArray
  Line : Int
  Params : Int
  Rest : Bool
  Regs : Int
  Ups : List Up
  Consts : List Val
  Ins : List Ins
  Named : List Nmd
  deriving Inhabited
abbrev Up.cells (u : Up) : List PV := [.bool u.Local, .int .i64 u.Index]
abbrev Val.cells (v : Val) : List PV := [.int .i64 v.Kind, .int .i64 v.Num, .flt .f64 v.Flt, .str v.Str, .int .i64 v.Ref]
abbrev Ins.cells (n : Ins) : List PV := [.int .i64 n.Op, .int .i64 n.A, .int .i64 n.B, .int .i64 n.C, .int .i64 n.D]
abbrev Nmd.cells (n : Nmd) : List PV := [.str n.Name, .int .i64 n.Reg, .int .i64 n.From, .int .i64 n.To]
abbrev ups (l : List Up) : PV := .fz (l.map Up.cells)
abbrev vals (l : List Val) : PV := .fz (l.map Val.cells)
abbrev inss (l : List Ins) : PV := .fz (l.map Ins.cells)
abbrev nmds (l : List Nmd) : PV := .fz (l.map Nmd.cells)
abbrev Proto.cells (p : Proto) : List PV := [.str p.Name, .int .i64 p.Line, .int .i64 p.Params, .bool p.Rest, .int .i64 p.Regs, ups p.Ups, vals p.Consts, inss p.Ins, nmds p.Named]
abbrev protos (l : List Proto) : PV := .fz (l.map Proto.cells)
abbrev code (l : List Proto) : PV := .agg [protos l]
theorem ep_l6in (x lo hi : Int) : EP A n_spec_l6in [.int .i64 x, .int .i64 lo, .int .i64 hi] = some (.bool (decide (lo ≤ x ∧ x ≤ hi))) := by
  simp (maxSteps := 10000000) -implicitDefEqProofs +contextual (disch := omega) only [e_spec_l6in, u_spec_l6in, rr_spec_l6in, ↓XD, XU, refs, goneIn, Nat.beq, Nat.ble, List.isEmpty, ↓reduceIte, sevalprocAttr]
theorem ei_within (x lo hi : Int) : EP A n_impl_within [.int .i64 x, .int .i64 lo, .int .i64 hi] = some (.bool (decide (lo ≤ x ∧ x ≤ hi))) := by
  simp (maxSteps := 10000000) -implicitDefEqProofs +contextual (disch := omega) only [e_impl_within, u_impl_within, rr_impl_within, ↓XD, XU, refs, goneIn, Nat.beq, Nat.ble, List.isEmpty, ↓reduceIte, sevalprocAttr]
theorem ep_l6fields (n : Ins) : EP A n_spec_l6fields [.agg n.cells] = some (ints [n.A, n.B, n.C, n.D]) := by
  simp (maxSteps := 10000000) -implicitDefEqProofs +contextual (disch := omega) only [e_spec_l6fields, u_spec_l6fields, rr_spec_l6fields, ints, Ins.cells, fillRows, isLeaf, frzS, ↓XD, XU, refs, goneIn, Nat.beq, Nat.ble, List.isEmpty, ↓reduceIte, sevalprocAttr]
theorem ei_fields (n : Ins) : EP A n_impl_Ins_fields [.agg n.cells] = some (.agg [.int .i64 n.A, .int .i64 n.B, .int .i64 n.C, .int .i64 n.D]) := by
  simp (maxSteps := 10000000) -implicitDefEqProofs +contextual (disch := omega) only [e_impl_Ins_fields, u_impl_Ins_fields, rr_impl_Ins_fields, ↓XD, XU, refs, goneIn, Nat.beq, Nat.ble, List.isEmpty, ↓reduceIte, sevalprocAttr]
noncomputable def sroles (o : Int) : Option (List Int) :=
  if o = 1 then some [11, 0, 0, 0] else
  if o = 2 then some [12, 0, 0, 0] else
  if o = 3 ∨ o = 32 ∨ o = 36 then some [0, 0, 0, 0] else
  if o = 4 then some [1, 7, 0, 0] else
  if o = 5 ∨ o = 6 then some [1, 2, 0, 0] else
  if o = 7 then some [1, 5, 0, 0] else
  if o = 8 then some [5, 2, 0, 0] else
  if o = 9 then some [1, 8, 0, 0] else
  if o = 10 then some [8, 2, 0, 0] else
  if o = 11 then some [1, 9, 0, 0] else
  if o = 12 ∨ o = 22 then some [1, 0, 0, 0] else
  if o = 13 then some [4, 2, 2, 0] else
  if o = 14 then some [4, 2, 3, 0] else
  if o = 15 then some [1, 2, 2, 0] else
  if o = 16 then some [2, 2, 2, 0] else
  if o = 17 then some [1, 15, 2, 0] else
  if o = 18 then some [1, 16, 2, 2] else
  if o = 19 then some [10, 0, 0, 0] else
  if o = 20 ∨ o = 21 then some [2, 10, 0, 0] else
  if o = 23 then some [6, 2, 0, 0] else
  if o = 24 then some [6, 3, 0, 0] else
  if o = 25 then some [1, 3, 0, 0] else
  if o = 26 then some [1, 6, 17, 0] else
  if o = 27 then some [1, 6, 0, 0] else
  if o = 28 then some [1, 2, 3, 0] else
  if o = 29 then some [3, 0, 0, 0] else
  if o = 30 then some [2, 0, 0, 0] else
  if o = 31 then some [10, 14, 0, 0] else
  if o = 33 ∨ o = 34 then some [13, 0, 0, 0] else
  if o = 35 then some [2, 3, 0, 0] else
  if o = 37 then some [18, 0, 0, 0] else
  if o = 38 ∨ o = 39 then some [18, 10, 0, 0] else
  if o = 40 then some [19, 0, 0, 0] else
  if o = 41 then some [20, 10, 1, 0] else
  if o = 42 then some [21, 0, 0, 0] else
  none
def rolesPV : Option (List Int) → PV
  | some l => ints l
  | none => .nils
theorem rolesPV_ite {p : Prop} [Decidable p] (x y : Option (List Int)) : rolesPV (if p then x else y) = if p then rolesPV x else rolesPV y := by split <;> rfl
set_option maxHeartbeats 8000000 in
theorem ep_l6roles (o : Int) : EP A n_spec_l6roles [.int .i64 o] = some (rolesPV (sroles o)) := by
  by_cases h1 : o = 1
  · subst h1; simp (maxSteps := 10000000) -implicitDefEqProofs +contextual (disch := omega) only [e_spec_l6roles, u_spec_l6roles, rr_spec_l6roles, fillRows, isLeaf, frzS, sroles, rolesPV, ints, ↓XD, XU, refs, goneIn, Nat.beq, Nat.ble, List.isEmpty, ↓reduceIte, sevalprocAttr]
  by_cases h2 : o = 2
  · subst h2; simp (maxSteps := 10000000) -implicitDefEqProofs +contextual (disch := omega) only [e_spec_l6roles, u_spec_l6roles, rr_spec_l6roles, fillRows, isLeaf, frzS, sroles, rolesPV, ints, ↓XD, XU, refs, goneIn, Nat.beq, Nat.ble, List.isEmpty, ↓reduceIte, sevalprocAttr]
  by_cases h3 : o = 3
  · subst h3; simp (maxSteps := 10000000) -implicitDefEqProofs +contextual (disch := omega) only [e_spec_l6roles, u_spec_l6roles, rr_spec_l6roles, fillRows, isLeaf, frzS, sroles, rolesPV, ints, ↓XD, XU, refs, goneIn, Nat.beq, Nat.ble, List.isEmpty, ↓reduceIte, sevalprocAttr]
  by_cases h4 : o = 4
  · subst h4; simp (maxSteps := 10000000) -implicitDefEqProofs +contextual (disch := omega) only [e_spec_l6roles, u_spec_l6roles, rr_spec_l6roles, fillRows, isLeaf, frzS, sroles, rolesPV, ints, ↓XD, XU, refs, goneIn, Nat.beq, Nat.ble, List.isEmpty, ↓reduceIte, sevalprocAttr]
  by_cases h5 : o = 5
  · subst h5; simp (maxSteps := 10000000) -implicitDefEqProofs +contextual (disch := omega) only [e_spec_l6roles, u_spec_l6roles, rr_spec_l6roles, fillRows, isLeaf, frzS, sroles, rolesPV, ints, ↓XD, XU, refs, goneIn, Nat.beq, Nat.ble, List.isEmpty, ↓reduceIte, sevalprocAttr]
  by_cases h6 : o = 6
  · subst h6; simp (maxSteps := 10000000) -implicitDefEqProofs +contextual (disch := omega) only [e_spec_l6roles, u_spec_l6roles, rr_spec_l6roles, fillRows, isLeaf, frzS, sroles, rolesPV, ints, ↓XD, XU, refs, goneIn, Nat.beq, Nat.ble, List.isEmpty, ↓reduceIte, sevalprocAttr]
  by_cases h7 : o = 7
  · subst h7; simp (maxSteps := 10000000) -implicitDefEqProofs +contextual (disch := omega) only [e_spec_l6roles, u_spec_l6roles, rr_spec_l6roles, fillRows, isLeaf, frzS, sroles, rolesPV, ints, ↓XD, XU, refs, goneIn, Nat.beq, Nat.ble, List.isEmpty, ↓reduceIte, sevalprocAttr]
  by_cases h8 : o = 8
  · subst h8; simp (maxSteps := 10000000) -implicitDefEqProofs +contextual (disch := omega) only [e_spec_l6roles, u_spec_l6roles, rr_spec_l6roles, fillRows, isLeaf, frzS, sroles, rolesPV, ints, ↓XD, XU, refs, goneIn, Nat.beq, Nat.ble, List.isEmpty, ↓reduceIte, sevalprocAttr]
  by_cases h9 : o = 9
  · subst h9; simp (maxSteps := 10000000) -implicitDefEqProofs +contextual (disch := omega) only [e_spec_l6roles, u_spec_l6roles, rr_spec_l6roles, fillRows, isLeaf, frzS, sroles, rolesPV, ints, ↓XD, XU, refs, goneIn, Nat.beq, Nat.ble, List.isEmpty, ↓reduceIte, sevalprocAttr]
  by_cases h10 : o = 10
  · subst h10; simp (maxSteps := 10000000) -implicitDefEqProofs +contextual (disch := omega) only [e_spec_l6roles, u_spec_l6roles, rr_spec_l6roles, fillRows, isLeaf, frzS, sroles, rolesPV, ints, ↓XD, XU, refs, goneIn, Nat.beq, Nat.ble, List.isEmpty, ↓reduceIte, sevalprocAttr]
  by_cases h11 : o = 11
  · subst h11; simp (maxSteps := 10000000) -implicitDefEqProofs +contextual (disch := omega) only [e_spec_l6roles, u_spec_l6roles, rr_spec_l6roles, fillRows, isLeaf, frzS, sroles, rolesPV, ints, ↓XD, XU, refs, goneIn, Nat.beq, Nat.ble, List.isEmpty, ↓reduceIte, sevalprocAttr]
  by_cases h12 : o = 12
  · subst h12; simp (maxSteps := 10000000) -implicitDefEqProofs +contextual (disch := omega) only [e_spec_l6roles, u_spec_l6roles, rr_spec_l6roles, fillRows, isLeaf, frzS, sroles, rolesPV, ints, ↓XD, XU, refs, goneIn, Nat.beq, Nat.ble, List.isEmpty, ↓reduceIte, sevalprocAttr]
  by_cases h13 : o = 13
  · subst h13; simp (maxSteps := 10000000) -implicitDefEqProofs +contextual (disch := omega) only [e_spec_l6roles, u_spec_l6roles, rr_spec_l6roles, fillRows, isLeaf, frzS, sroles, rolesPV, ints, ↓XD, XU, refs, goneIn, Nat.beq, Nat.ble, List.isEmpty, ↓reduceIte, sevalprocAttr]
  by_cases h14 : o = 14
  · subst h14; simp (maxSteps := 10000000) -implicitDefEqProofs +contextual (disch := omega) only [e_spec_l6roles, u_spec_l6roles, rr_spec_l6roles, fillRows, isLeaf, frzS, sroles, rolesPV, ints, ↓XD, XU, refs, goneIn, Nat.beq, Nat.ble, List.isEmpty, ↓reduceIte, sevalprocAttr]
  by_cases h15 : o = 15
  · subst h15; simp (maxSteps := 10000000) -implicitDefEqProofs +contextual (disch := omega) only [e_spec_l6roles, u_spec_l6roles, rr_spec_l6roles, fillRows, isLeaf, frzS, sroles, rolesPV, ints, ↓XD, XU, refs, goneIn, Nat.beq, Nat.ble, List.isEmpty, ↓reduceIte, sevalprocAttr]
  by_cases h16 : o = 16
  · subst h16; simp (maxSteps := 10000000) -implicitDefEqProofs +contextual (disch := omega) only [e_spec_l6roles, u_spec_l6roles, rr_spec_l6roles, fillRows, isLeaf, frzS, sroles, rolesPV, ints, ↓XD, XU, refs, goneIn, Nat.beq, Nat.ble, List.isEmpty, ↓reduceIte, sevalprocAttr]
  by_cases h17 : o = 17
  · subst h17; simp (maxSteps := 10000000) -implicitDefEqProofs +contextual (disch := omega) only [e_spec_l6roles, u_spec_l6roles, rr_spec_l6roles, fillRows, isLeaf, frzS, sroles, rolesPV, ints, ↓XD, XU, refs, goneIn, Nat.beq, Nat.ble, List.isEmpty, ↓reduceIte, sevalprocAttr]
  by_cases h18 : o = 18
  · subst h18; simp (maxSteps := 10000000) -implicitDefEqProofs +contextual (disch := omega) only [e_spec_l6roles, u_spec_l6roles, rr_spec_l6roles, fillRows, isLeaf, frzS, sroles, rolesPV, ints, ↓XD, XU, refs, goneIn, Nat.beq, Nat.ble, List.isEmpty, ↓reduceIte, sevalprocAttr]
  by_cases h19 : o = 19
  · subst h19; simp (maxSteps := 10000000) -implicitDefEqProofs +contextual (disch := omega) only [e_spec_l6roles, u_spec_l6roles, rr_spec_l6roles, fillRows, isLeaf, frzS, sroles, rolesPV, ints, ↓XD, XU, refs, goneIn, Nat.beq, Nat.ble, List.isEmpty, ↓reduceIte, sevalprocAttr]
  by_cases h20 : o = 20
  · subst h20; simp (maxSteps := 10000000) -implicitDefEqProofs +contextual (disch := omega) only [e_spec_l6roles, u_spec_l6roles, rr_spec_l6roles, fillRows, isLeaf, frzS, sroles, rolesPV, ints, ↓XD, XU, refs, goneIn, Nat.beq, Nat.ble, List.isEmpty, ↓reduceIte, sevalprocAttr]
  by_cases h21 : o = 21
  · subst h21; simp (maxSteps := 10000000) -implicitDefEqProofs +contextual (disch := omega) only [e_spec_l6roles, u_spec_l6roles, rr_spec_l6roles, fillRows, isLeaf, frzS, sroles, rolesPV, ints, ↓XD, XU, refs, goneIn, Nat.beq, Nat.ble, List.isEmpty, ↓reduceIte, sevalprocAttr]
  by_cases h22 : o = 22
  · subst h22; simp (maxSteps := 10000000) -implicitDefEqProofs +contextual (disch := omega) only [e_spec_l6roles, u_spec_l6roles, rr_spec_l6roles, fillRows, isLeaf, frzS, sroles, rolesPV, ints, ↓XD, XU, refs, goneIn, Nat.beq, Nat.ble, List.isEmpty, ↓reduceIte, sevalprocAttr]
  by_cases h23 : o = 23
  · subst h23; simp (maxSteps := 10000000) -implicitDefEqProofs +contextual (disch := omega) only [e_spec_l6roles, u_spec_l6roles, rr_spec_l6roles, fillRows, isLeaf, frzS, sroles, rolesPV, ints, ↓XD, XU, refs, goneIn, Nat.beq, Nat.ble, List.isEmpty, ↓reduceIte, sevalprocAttr]
  by_cases h24 : o = 24
  · subst h24; simp (maxSteps := 10000000) -implicitDefEqProofs +contextual (disch := omega) only [e_spec_l6roles, u_spec_l6roles, rr_spec_l6roles, fillRows, isLeaf, frzS, sroles, rolesPV, ints, ↓XD, XU, refs, goneIn, Nat.beq, Nat.ble, List.isEmpty, ↓reduceIte, sevalprocAttr]
  by_cases h25 : o = 25
  · subst h25; simp (maxSteps := 10000000) -implicitDefEqProofs +contextual (disch := omega) only [e_spec_l6roles, u_spec_l6roles, rr_spec_l6roles, fillRows, isLeaf, frzS, sroles, rolesPV, ints, ↓XD, XU, refs, goneIn, Nat.beq, Nat.ble, List.isEmpty, ↓reduceIte, sevalprocAttr]
  by_cases h26 : o = 26
  · subst h26; simp (maxSteps := 10000000) -implicitDefEqProofs +contextual (disch := omega) only [e_spec_l6roles, u_spec_l6roles, rr_spec_l6roles, fillRows, isLeaf, frzS, sroles, rolesPV, ints, ↓XD, XU, refs, goneIn, Nat.beq, Nat.ble, List.isEmpty, ↓reduceIte, sevalprocAttr]
  by_cases h27 : o = 27
  · subst h27; simp (maxSteps := 10000000) -implicitDefEqProofs +contextual (disch := omega) only [e_spec_l6roles, u_spec_l6roles, rr_spec_l6roles, fillRows, isLeaf, frzS, sroles, rolesPV, ints, ↓XD, XU, refs, goneIn, Nat.beq, Nat.ble, List.isEmpty, ↓reduceIte, sevalprocAttr]
  by_cases h28 : o = 28
  · subst h28; simp (maxSteps := 10000000) -implicitDefEqProofs +contextual (disch := omega) only [e_spec_l6roles, u_spec_l6roles, rr_spec_l6roles, fillRows, isLeaf, frzS, sroles, rolesPV, ints, ↓XD, XU, refs, goneIn, Nat.beq, Nat.ble, List.isEmpty, ↓reduceIte, sevalprocAttr]
  by_cases h29 : o = 29
  · subst h29; simp (maxSteps := 10000000) -implicitDefEqProofs +contextual (disch := omega) only [e_spec_l6roles, u_spec_l6roles, rr_spec_l6roles, fillRows, isLeaf, frzS, sroles, rolesPV, ints, ↓XD, XU, refs, goneIn, Nat.beq, Nat.ble, List.isEmpty, ↓reduceIte, sevalprocAttr]
  by_cases h30 : o = 30
  · subst h30; simp (maxSteps := 10000000) -implicitDefEqProofs +contextual (disch := omega) only [e_spec_l6roles, u_spec_l6roles, rr_spec_l6roles, fillRows, isLeaf, frzS, sroles, rolesPV, ints, ↓XD, XU, refs, goneIn, Nat.beq, Nat.ble, List.isEmpty, ↓reduceIte, sevalprocAttr]
  by_cases h31 : o = 31
  · subst h31; simp (maxSteps := 10000000) -implicitDefEqProofs +contextual (disch := omega) only [e_spec_l6roles, u_spec_l6roles, rr_spec_l6roles, fillRows, isLeaf, frzS, sroles, rolesPV, ints, ↓XD, XU, refs, goneIn, Nat.beq, Nat.ble, List.isEmpty, ↓reduceIte, sevalprocAttr]
  by_cases h32 : o = 32
  · subst h32; simp (maxSteps := 10000000) -implicitDefEqProofs +contextual (disch := omega) only [e_spec_l6roles, u_spec_l6roles, rr_spec_l6roles, fillRows, isLeaf, frzS, sroles, rolesPV, ints, ↓XD, XU, refs, goneIn, Nat.beq, Nat.ble, List.isEmpty, ↓reduceIte, sevalprocAttr]
  by_cases h33 : o = 33
  · subst h33; simp (maxSteps := 10000000) -implicitDefEqProofs +contextual (disch := omega) only [e_spec_l6roles, u_spec_l6roles, rr_spec_l6roles, fillRows, isLeaf, frzS, sroles, rolesPV, ints, ↓XD, XU, refs, goneIn, Nat.beq, Nat.ble, List.isEmpty, ↓reduceIte, sevalprocAttr]
  by_cases h34 : o = 34
  · subst h34; simp (maxSteps := 10000000) -implicitDefEqProofs +contextual (disch := omega) only [e_spec_l6roles, u_spec_l6roles, rr_spec_l6roles, fillRows, isLeaf, frzS, sroles, rolesPV, ints, ↓XD, XU, refs, goneIn, Nat.beq, Nat.ble, List.isEmpty, ↓reduceIte, sevalprocAttr]
  by_cases h35 : o = 35
  · subst h35; simp (maxSteps := 10000000) -implicitDefEqProofs +contextual (disch := omega) only [e_spec_l6roles, u_spec_l6roles, rr_spec_l6roles, fillRows, isLeaf, frzS, sroles, rolesPV, ints, ↓XD, XU, refs, goneIn, Nat.beq, Nat.ble, List.isEmpty, ↓reduceIte, sevalprocAttr]
  by_cases h36 : o = 36
  · subst h36; simp (maxSteps := 10000000) -implicitDefEqProofs +contextual (disch := omega) only [e_spec_l6roles, u_spec_l6roles, rr_spec_l6roles, fillRows, isLeaf, frzS, sroles, rolesPV, ints, ↓XD, XU, refs, goneIn, Nat.beq, Nat.ble, List.isEmpty, ↓reduceIte, sevalprocAttr]
  by_cases h37 : o = 37
  · subst h37; simp (maxSteps := 10000000) -implicitDefEqProofs +contextual (disch := omega) only [e_spec_l6roles, u_spec_l6roles, rr_spec_l6roles, fillRows, isLeaf, frzS, sroles, rolesPV, ints, ↓XD, XU, refs, goneIn, Nat.beq, Nat.ble, List.isEmpty, ↓reduceIte, sevalprocAttr]
  by_cases h38 : o = 38
  · subst h38; simp (maxSteps := 10000000) -implicitDefEqProofs +contextual (disch := omega) only [e_spec_l6roles, u_spec_l6roles, rr_spec_l6roles, fillRows, isLeaf, frzS, sroles, rolesPV, ints, ↓XD, XU, refs, goneIn, Nat.beq, Nat.ble, List.isEmpty, ↓reduceIte, sevalprocAttr]
  by_cases h39 : o = 39
  · subst h39; simp (maxSteps := 10000000) -implicitDefEqProofs +contextual (disch := omega) only [e_spec_l6roles, u_spec_l6roles, rr_spec_l6roles, fillRows, isLeaf, frzS, sroles, rolesPV, ints, ↓XD, XU, refs, goneIn, Nat.beq, Nat.ble, List.isEmpty, ↓reduceIte, sevalprocAttr]
  by_cases h40 : o = 40
  · subst h40; simp (maxSteps := 10000000) -implicitDefEqProofs +contextual (disch := omega) only [e_spec_l6roles, u_spec_l6roles, rr_spec_l6roles, fillRows, isLeaf, frzS, sroles, rolesPV, ints, ↓XD, XU, refs, goneIn, Nat.beq, Nat.ble, List.isEmpty, ↓reduceIte, sevalprocAttr]
  by_cases h41 : o = 41
  · subst h41; simp (maxSteps := 10000000) -implicitDefEqProofs +contextual (disch := omega) only [e_spec_l6roles, u_spec_l6roles, rr_spec_l6roles, fillRows, isLeaf, frzS, sroles, rolesPV, ints, ↓XD, XU, refs, goneIn, Nat.beq, Nat.ble, List.isEmpty, ↓reduceIte, sevalprocAttr]
  by_cases h42 : o = 42
  · subst h42; simp (maxSteps := 10000000) -implicitDefEqProofs +contextual (disch := omega) only [e_spec_l6roles, u_spec_l6roles, rr_spec_l6roles, fillRows, isLeaf, frzS, sroles, rolesPV, ints, ↓XD, XU, refs, goneIn, Nat.beq, Nat.ble, List.isEmpty, ↓reduceIte, sevalprocAttr]
  simp (maxSteps := 10000000) -implicitDefEqProofs +contextual (disch := omega) only [e_spec_l6roles, u_spec_l6roles, rr_spec_l6roles, fillRows, isLeaf, frzS, sroles, rolesPV, ints, ↓XD, XU, refs, goneIn, Nat.beq, Nat.ble, List.isEmpty, ↓reduceIte, sevalprocAttr, h1, h2, h3, h4, h5, h6, h7, h8, h9, h10, h11, h12, h13, h14, h15, h16, h17, h18, h19, h20, h21, h22, h23, h24, h25, h26, h27, h28, h29, h30, h31, h32, h33, h34, h35, h36, h37, h38, h39, h40, h41, h42]
end Go.Proofs.Tryd.Av
end
section
attribute [local congr] ite_congr
set_option linter.unusedSimpArgs false
set_option linter.unusedVariables false
set_option maxRecDepth 10000
set_option maxHeartbeats 4000000
namespace Go.Proofs.Tryd.Av
open Go Go.Av Classical
structure POk (p : Proto) : Prop where
  r0 : 0 ≤ p.Regs
  r1 : p.Regs ≤ 250
  u : p.Ups.length ≤ 1048576
  c : p.Consts.length ≤ 1048576
  i : p.Ins.length ≤ 1048576
  n : p.Named.length ≤ 1048576
def SFits (np : Nat) (f : Proto) (r x : Int) : Prop :=
  if r = 0 then x = 0 else if r = 1 ∨ r = 4 ∨ r = 5 ∨ r = 6 ∨ r = 21 then 0 ≤ x ∧ x ≤ f.Regs - 1 else if r = 2 ∨ r = 3 then -f.Regs ≤ x ∧ x ≤ f.Regs - 1
  else if r = 7 then 0 ≤ x ∧ x ≤ f.Consts.length - 1 else if r = 8 then 0 ≤ x ∧ x ≤ f.Ups.length - 1 else if r = 9 then 0 ≤ x ∧ x ≤ np - 1 else if r = 10 then 0 ≤ x ∧ x ≤ f.Ins.length - 1
  else if r = 11 then 1 ≤ x ∧ x ≤ 100000 else if r = 12 then 0 ≤ x ∧ x ≤ 100000 else if r = 13 then 0 ≤ x ∧ x ≤ f.Regs else if r = 14 then 0 ≤ x ∧ x ≤ f.Regs - 2
  else if r = 15 then 19 ≤ x ∧ x ≤ 22 else if r = 16 then 1 ≤ x ∧ x ≤ 18 else if r = 17 then 0 ≤ x ∧ x ≤ 250 else if r = 18 then 0 ≤ x ∧ x ≤ f.Regs - 3 else 0 ≤ x ∧ x ≤ f.Regs - 2
theorem ep_l6fits (ps : List Proto) (p r x : Int) (p0 : 0 ≤ p) (hn : p < ps.length) (hb : ps.length ≤ 1048576) (h : POk (nth ps p)) : EP A n_spec_l6fits [code ps, .int .i64 p, .int .i64 r, .int .i64 x] = some (.bool (decide (SFits ps.length (nth ps p) r x))) := by
  have g1 := h.r0
  have g2 := h.r1
  have g3 := h.u
  have g4 := h.c
  have g5 := h.i
  by_cases h0 : r = 0
  · subst h0; simp (maxSteps := 10000000) -implicitDefEqProofs +contextual (disch := omega) only [e_spec_l6fits, u_spec_l6fits, rr_spec_l6fits, code, protos, Proto.cells, ups, vals, inss, nmds, ep_l6in, SFits, Int.zero_sub, ↓XD, XU, refs, goneIn, Nat.beq, Nat.ble, List.isEmpty, ↓reduceIte, sevalprocAttr, hn]
  by_cases h1 : r = 1
  · subst h1; simp (maxSteps := 10000000) -implicitDefEqProofs +contextual (disch := omega) only [e_spec_l6fits, u_spec_l6fits, rr_spec_l6fits, code, protos, Proto.cells, ups, vals, inss, nmds, ep_l6in, SFits, Int.zero_sub, ↓XD, XU, refs, goneIn, Nat.beq, Nat.ble, List.isEmpty, ↓reduceIte, sevalprocAttr, hn]
  by_cases h2 : r = 2
  · subst h2; simp (maxSteps := 10000000) -implicitDefEqProofs +contextual (disch := omega) only [e_spec_l6fits, u_spec_l6fits, rr_spec_l6fits, code, protos, Proto.cells, ups, vals, inss, nmds, ep_l6in, SFits, Int.zero_sub, ↓XD, XU, refs, goneIn, Nat.beq, Nat.ble, List.isEmpty, ↓reduceIte, sevalprocAttr, hn]
  by_cases h3 : r = 3
  · subst h3; simp (maxSteps := 10000000) -implicitDefEqProofs +contextual (disch := omega) only [e_spec_l6fits, u_spec_l6fits, rr_spec_l6fits, code, protos, Proto.cells, ups, vals, inss, nmds, ep_l6in, SFits, Int.zero_sub, ↓XD, XU, refs, goneIn, Nat.beq, Nat.ble, List.isEmpty, ↓reduceIte, sevalprocAttr, hn]
  by_cases h4 : r = 4
  · subst h4; simp (maxSteps := 10000000) -implicitDefEqProofs +contextual (disch := omega) only [e_spec_l6fits, u_spec_l6fits, rr_spec_l6fits, code, protos, Proto.cells, ups, vals, inss, nmds, ep_l6in, SFits, Int.zero_sub, ↓XD, XU, refs, goneIn, Nat.beq, Nat.ble, List.isEmpty, ↓reduceIte, sevalprocAttr, hn]
  by_cases h5 : r = 5
  · subst h5; simp (maxSteps := 10000000) -implicitDefEqProofs +contextual (disch := omega) only [e_spec_l6fits, u_spec_l6fits, rr_spec_l6fits, code, protos, Proto.cells, ups, vals, inss, nmds, ep_l6in, SFits, Int.zero_sub, ↓XD, XU, refs, goneIn, Nat.beq, Nat.ble, List.isEmpty, ↓reduceIte, sevalprocAttr, hn]
  by_cases h6 : r = 6
  · subst h6; simp (maxSteps := 10000000) -implicitDefEqProofs +contextual (disch := omega) only [e_spec_l6fits, u_spec_l6fits, rr_spec_l6fits, code, protos, Proto.cells, ups, vals, inss, nmds, ep_l6in, SFits, Int.zero_sub, ↓XD, XU, refs, goneIn, Nat.beq, Nat.ble, List.isEmpty, ↓reduceIte, sevalprocAttr, hn]
  by_cases h7 : r = 7
  · subst h7; simp (maxSteps := 10000000) -implicitDefEqProofs +contextual (disch := omega) only [e_spec_l6fits, u_spec_l6fits, rr_spec_l6fits, code, protos, Proto.cells, ups, vals, inss, nmds, ep_l6in, SFits, Int.zero_sub, ↓XD, XU, refs, goneIn, Nat.beq, Nat.ble, List.isEmpty, ↓reduceIte, sevalprocAttr, hn]
  by_cases h8 : r = 8
  · subst h8; simp (maxSteps := 10000000) -implicitDefEqProofs +contextual (disch := omega) only [e_spec_l6fits, u_spec_l6fits, rr_spec_l6fits, code, protos, Proto.cells, ups, vals, inss, nmds, ep_l6in, SFits, Int.zero_sub, ↓XD, XU, refs, goneIn, Nat.beq, Nat.ble, List.isEmpty, ↓reduceIte, sevalprocAttr, hn]
  by_cases h9 : r = 9
  · subst h9; simp (maxSteps := 10000000) -implicitDefEqProofs +contextual (disch := omega) only [e_spec_l6fits, u_spec_l6fits, rr_spec_l6fits, code, protos, Proto.cells, ups, vals, inss, nmds, ep_l6in, SFits, Int.zero_sub, ↓XD, XU, refs, goneIn, Nat.beq, Nat.ble, List.isEmpty, ↓reduceIte, sevalprocAttr, hn]
  by_cases h10 : r = 10
  · subst h10; simp (maxSteps := 10000000) -implicitDefEqProofs +contextual (disch := omega) only [e_spec_l6fits, u_spec_l6fits, rr_spec_l6fits, code, protos, Proto.cells, ups, vals, inss, nmds, ep_l6in, SFits, Int.zero_sub, ↓XD, XU, refs, goneIn, Nat.beq, Nat.ble, List.isEmpty, ↓reduceIte, sevalprocAttr, hn]
  by_cases h11 : r = 11
  · subst h11; simp (maxSteps := 10000000) -implicitDefEqProofs +contextual (disch := omega) only [e_spec_l6fits, u_spec_l6fits, rr_spec_l6fits, code, protos, Proto.cells, ups, vals, inss, nmds, ep_l6in, SFits, Int.zero_sub, ↓XD, XU, refs, goneIn, Nat.beq, Nat.ble, List.isEmpty, ↓reduceIte, sevalprocAttr, hn]
  by_cases h12 : r = 12
  · subst h12; simp (maxSteps := 10000000) -implicitDefEqProofs +contextual (disch := omega) only [e_spec_l6fits, u_spec_l6fits, rr_spec_l6fits, code, protos, Proto.cells, ups, vals, inss, nmds, ep_l6in, SFits, Int.zero_sub, ↓XD, XU, refs, goneIn, Nat.beq, Nat.ble, List.isEmpty, ↓reduceIte, sevalprocAttr, hn]
  by_cases h13 : r = 13
  · subst h13; simp (maxSteps := 10000000) -implicitDefEqProofs +contextual (disch := omega) only [e_spec_l6fits, u_spec_l6fits, rr_spec_l6fits, code, protos, Proto.cells, ups, vals, inss, nmds, ep_l6in, SFits, Int.zero_sub, ↓XD, XU, refs, goneIn, Nat.beq, Nat.ble, List.isEmpty, ↓reduceIte, sevalprocAttr, hn]
  by_cases h14 : r = 14
  · subst h14; simp (maxSteps := 10000000) -implicitDefEqProofs +contextual (disch := omega) only [e_spec_l6fits, u_spec_l6fits, rr_spec_l6fits, code, protos, Proto.cells, ups, vals, inss, nmds, ep_l6in, SFits, Int.zero_sub, ↓XD, XU, refs, goneIn, Nat.beq, Nat.ble, List.isEmpty, ↓reduceIte, sevalprocAttr, hn]
  by_cases h15 : r = 15
  · subst h15; simp (maxSteps := 10000000) -implicitDefEqProofs +contextual (disch := omega) only [e_spec_l6fits, u_spec_l6fits, rr_spec_l6fits, code, protos, Proto.cells, ups, vals, inss, nmds, ep_l6in, SFits, Int.zero_sub, ↓XD, XU, refs, goneIn, Nat.beq, Nat.ble, List.isEmpty, ↓reduceIte, sevalprocAttr, hn]
  by_cases h16 : r = 16
  · subst h16; simp (maxSteps := 10000000) -implicitDefEqProofs +contextual (disch := omega) only [e_spec_l6fits, u_spec_l6fits, rr_spec_l6fits, code, protos, Proto.cells, ups, vals, inss, nmds, ep_l6in, SFits, Int.zero_sub, ↓XD, XU, refs, goneIn, Nat.beq, Nat.ble, List.isEmpty, ↓reduceIte, sevalprocAttr, hn]
  by_cases h17 : r = 17
  · subst h17; simp (maxSteps := 10000000) -implicitDefEqProofs +contextual (disch := omega) only [e_spec_l6fits, u_spec_l6fits, rr_spec_l6fits, code, protos, Proto.cells, ups, vals, inss, nmds, ep_l6in, SFits, Int.zero_sub, ↓XD, XU, refs, goneIn, Nat.beq, Nat.ble, List.isEmpty, ↓reduceIte, sevalprocAttr, hn]
  by_cases h18 : r = 18
  · subst h18; simp (maxSteps := 10000000) -implicitDefEqProofs +contextual (disch := omega) only [e_spec_l6fits, u_spec_l6fits, rr_spec_l6fits, code, protos, Proto.cells, ups, vals, inss, nmds, ep_l6in, SFits, Int.zero_sub, ↓XD, XU, refs, goneIn, Nat.beq, Nat.ble, List.isEmpty, ↓reduceIte, sevalprocAttr, hn]
  by_cases h21 : r = 21
  · subst h21; simp (maxSteps := 10000000) -implicitDefEqProofs +contextual (disch := omega) only [e_spec_l6fits, u_spec_l6fits, rr_spec_l6fits, code, protos, Proto.cells, ups, vals, inss, nmds, ep_l6in, SFits, Int.zero_sub, ↓XD, XU, refs, goneIn, Nat.beq, Nat.ble, List.isEmpty, ↓reduceIte, sevalprocAttr, hn]
  simp (maxSteps := 10000000) -implicitDefEqProofs +contextual (disch := omega) only [e_spec_l6fits, u_spec_l6fits, rr_spec_l6fits, code, protos, Proto.cells, ups, vals, inss, nmds, ep_l6in, SFits, Int.zero_sub, ↓XD, XU, refs, goneIn, Nat.beq, Nat.ble, List.isEmpty, ↓reduceIte, sevalprocAttr, hn, h0, h1, h2, h3, h4, h5, h6, h7, h8, h9, h10, h11, h12, h13, h14, h15, h16, h17, h18, h21]
def IFits (np : Nat) (f : Proto) (r x : Int) : Prop :=
  if r = 1 ∨ r = 4 ∨ r = 5 ∨ r = 6 then 0 ≤ x ∧ x ≤ f.Regs - 1 else if r = 2 ∨ r = 3 then (if x < 0 then 0 ≤ -1 - x ∧ -1 - x ≤ f.Regs - 1 else 0 ≤ x ∧ x ≤ f.Regs - 1)
  else if r = 7 then 1 ≤ x ∧ x ≤ 100000 else if r = 8 then 0 ≤ x ∧ x ≤ 100000 else if r = 9 then 0 ≤ x ∧ x ≤ f.Consts.length - 1 else if r = 10 then 0 ≤ x ∧ x ≤ f.Ups.length - 1
  else if r = 11 then 0 ≤ x ∧ x ≤ np - 1 else if r = 12 then 0 ≤ x ∧ x ≤ f.Ins.length - 1 else if r = 13 then 1 ≤ x ∧ x ≤ 18 else if r = 14 then 19 ≤ x ∧ x ≤ 22 else if r = 15 then 0 ≤ x ∧ x ≤ 250
  else if r = 16 then 0 ≤ x ∧ x ≤ f.Regs else if r = 17 then 0 ≤ x ∧ x ≤ f.Regs - 2 else if r = 18 then 0 ≤ x ∧ x ≤ f.Regs - 3 else if r = 19 ∨ r = 20 then 0 ≤ x ∧ x ≤ f.Regs - 2 else x = 0
theorem ei_fieldOk (ps : List Proto) (f : Proto) (r x : Int) (x0 : -9223372036854775808 ≤ x) (x1 : x < 9223372036854775808) (hb : ps.length ≤ 1048576) (h : POk f) : EP A n_impl_fieldOk [code ps, .agg f.cells, .int .i64 r, .int .i64 x] = some (.bool (decide (IFits ps.length f r x))) := by
  have g1 := h.r0
  have g2 := h.r1
  have g3 := h.u
  have g4 := h.c
  have g5 := h.i
  have hn := hb
  by_cases h1 : r = 1
  · subst h1; simp (maxSteps := 10000000) -implicitDefEqProofs +contextual (disch := omega) only [e_impl_fieldOk, u_impl_fieldOk, rr_impl_fieldOk, code, protos, Proto.cells, ups, vals, inss, nmds, ei_within, IFits, ↓XD, XU, refs, goneIn, Nat.beq, Nat.ble, List.isEmpty, ↓reduceIte, sevalprocAttr, hn]
  by_cases h2 : r = 2
  · subst h2
    by_cases hx : x < 0
    · simp (maxSteps := 10000000) -implicitDefEqProofs +contextual (disch := omega) only [e_impl_fieldOk, u_impl_fieldOk, rr_impl_fieldOk, code, protos, Proto.cells, ups, vals, inss, nmds, ei_within, IFits, ↓XD, XU, refs, goneIn, Nat.beq, Nat.ble, List.isEmpty, ↓reduceIte, sevalprocAttr, hn, hx]
    · simp (maxSteps := 10000000) -implicitDefEqProofs +contextual (disch := omega) only [e_impl_fieldOk, u_impl_fieldOk, rr_impl_fieldOk, code, protos, Proto.cells, ups, vals, inss, nmds, ei_within, IFits, ↓XD, XU, refs, goneIn, Nat.beq, Nat.ble, List.isEmpty, ↓reduceIte, sevalprocAttr, hn, hx]
  by_cases h3 : r = 3
  · subst h3
    by_cases hx : x < 0
    · simp (maxSteps := 10000000) -implicitDefEqProofs +contextual (disch := omega) only [e_impl_fieldOk, u_impl_fieldOk, rr_impl_fieldOk, code, protos, Proto.cells, ups, vals, inss, nmds, ei_within, IFits, ↓XD, XU, refs, goneIn, Nat.beq, Nat.ble, List.isEmpty, ↓reduceIte, sevalprocAttr, hn, hx]
    · simp (maxSteps := 10000000) -implicitDefEqProofs +contextual (disch := omega) only [e_impl_fieldOk, u_impl_fieldOk, rr_impl_fieldOk, code, protos, Proto.cells, ups, vals, inss, nmds, ei_within, IFits, ↓XD, XU, refs, goneIn, Nat.beq, Nat.ble, List.isEmpty, ↓reduceIte, sevalprocAttr, hn, hx]
  by_cases h4 : r = 4
  · subst h4; simp (maxSteps := 10000000) -implicitDefEqProofs +contextual (disch := omega) only [e_impl_fieldOk, u_impl_fieldOk, rr_impl_fieldOk, code, protos, Proto.cells, ups, vals, inss, nmds, ei_within, IFits, ↓XD, XU, refs, goneIn, Nat.beq, Nat.ble, List.isEmpty, ↓reduceIte, sevalprocAttr, hn]
  by_cases h5 : r = 5
  · subst h5; simp (maxSteps := 10000000) -implicitDefEqProofs +contextual (disch := omega) only [e_impl_fieldOk, u_impl_fieldOk, rr_impl_fieldOk, code, protos, Proto.cells, ups, vals, inss, nmds, ei_within, IFits, ↓XD, XU, refs, goneIn, Nat.beq, Nat.ble, List.isEmpty, ↓reduceIte, sevalprocAttr, hn]
  by_cases h6 : r = 6
  · subst h6; simp (maxSteps := 10000000) -implicitDefEqProofs +contextual (disch := omega) only [e_impl_fieldOk, u_impl_fieldOk, rr_impl_fieldOk, code, protos, Proto.cells, ups, vals, inss, nmds, ei_within, IFits, ↓XD, XU, refs, goneIn, Nat.beq, Nat.ble, List.isEmpty, ↓reduceIte, sevalprocAttr, hn]
  by_cases h7 : r = 7
  · subst h7; simp (maxSteps := 10000000) -implicitDefEqProofs +contextual (disch := omega) only [e_impl_fieldOk, u_impl_fieldOk, rr_impl_fieldOk, code, protos, Proto.cells, ups, vals, inss, nmds, ei_within, IFits, ↓XD, XU, refs, goneIn, Nat.beq, Nat.ble, List.isEmpty, ↓reduceIte, sevalprocAttr, hn]
  by_cases h8 : r = 8
  · subst h8; simp (maxSteps := 10000000) -implicitDefEqProofs +contextual (disch := omega) only [e_impl_fieldOk, u_impl_fieldOk, rr_impl_fieldOk, code, protos, Proto.cells, ups, vals, inss, nmds, ei_within, IFits, ↓XD, XU, refs, goneIn, Nat.beq, Nat.ble, List.isEmpty, ↓reduceIte, sevalprocAttr, hn]
  by_cases h9 : r = 9
  · subst h9; simp (maxSteps := 10000000) -implicitDefEqProofs +contextual (disch := omega) only [e_impl_fieldOk, u_impl_fieldOk, rr_impl_fieldOk, code, protos, Proto.cells, ups, vals, inss, nmds, ei_within, IFits, ↓XD, XU, refs, goneIn, Nat.beq, Nat.ble, List.isEmpty, ↓reduceIte, sevalprocAttr, hn]
  by_cases h10 : r = 10
  · subst h10; simp (maxSteps := 10000000) -implicitDefEqProofs +contextual (disch := omega) only [e_impl_fieldOk, u_impl_fieldOk, rr_impl_fieldOk, code, protos, Proto.cells, ups, vals, inss, nmds, ei_within, IFits, ↓XD, XU, refs, goneIn, Nat.beq, Nat.ble, List.isEmpty, ↓reduceIte, sevalprocAttr, hn]
  by_cases h11 : r = 11
  · subst h11; simp (maxSteps := 10000000) -implicitDefEqProofs +contextual (disch := omega) only [e_impl_fieldOk, u_impl_fieldOk, rr_impl_fieldOk, code, protos, Proto.cells, ups, vals, inss, nmds, ei_within, IFits, ↓XD, XU, refs, goneIn, Nat.beq, Nat.ble, List.isEmpty, ↓reduceIte, sevalprocAttr, hn]
  by_cases h12 : r = 12
  · subst h12; simp (maxSteps := 10000000) -implicitDefEqProofs +contextual (disch := omega) only [e_impl_fieldOk, u_impl_fieldOk, rr_impl_fieldOk, code, protos, Proto.cells, ups, vals, inss, nmds, ei_within, IFits, ↓XD, XU, refs, goneIn, Nat.beq, Nat.ble, List.isEmpty, ↓reduceIte, sevalprocAttr, hn]
  by_cases h13 : r = 13
  · subst h13; simp (maxSteps := 10000000) -implicitDefEqProofs +contextual (disch := omega) only [e_impl_fieldOk, u_impl_fieldOk, rr_impl_fieldOk, code, protos, Proto.cells, ups, vals, inss, nmds, ei_within, IFits, ↓XD, XU, refs, goneIn, Nat.beq, Nat.ble, List.isEmpty, ↓reduceIte, sevalprocAttr, hn]
  by_cases h14 : r = 14
  · subst h14; simp (maxSteps := 10000000) -implicitDefEqProofs +contextual (disch := omega) only [e_impl_fieldOk, u_impl_fieldOk, rr_impl_fieldOk, code, protos, Proto.cells, ups, vals, inss, nmds, ei_within, IFits, ↓XD, XU, refs, goneIn, Nat.beq, Nat.ble, List.isEmpty, ↓reduceIte, sevalprocAttr, hn]
  by_cases h15 : r = 15
  · subst h15; simp (maxSteps := 10000000) -implicitDefEqProofs +contextual (disch := omega) only [e_impl_fieldOk, u_impl_fieldOk, rr_impl_fieldOk, code, protos, Proto.cells, ups, vals, inss, nmds, ei_within, IFits, ↓XD, XU, refs, goneIn, Nat.beq, Nat.ble, List.isEmpty, ↓reduceIte, sevalprocAttr, hn]
  by_cases h16 : r = 16
  · subst h16; simp (maxSteps := 10000000) -implicitDefEqProofs +contextual (disch := omega) only [e_impl_fieldOk, u_impl_fieldOk, rr_impl_fieldOk, code, protos, Proto.cells, ups, vals, inss, nmds, ei_within, IFits, ↓XD, XU, refs, goneIn, Nat.beq, Nat.ble, List.isEmpty, ↓reduceIte, sevalprocAttr, hn]
  by_cases h17 : r = 17
  · subst h17; simp (maxSteps := 10000000) -implicitDefEqProofs +contextual (disch := omega) only [e_impl_fieldOk, u_impl_fieldOk, rr_impl_fieldOk, code, protos, Proto.cells, ups, vals, inss, nmds, ei_within, IFits, ↓XD, XU, refs, goneIn, Nat.beq, Nat.ble, List.isEmpty, ↓reduceIte, sevalprocAttr, hn]
  by_cases h18 : r = 18
  · subst h18; simp (maxSteps := 10000000) -implicitDefEqProofs +contextual (disch := omega) only [e_impl_fieldOk, u_impl_fieldOk, rr_impl_fieldOk, code, protos, Proto.cells, ups, vals, inss, nmds, ei_within, IFits, ↓XD, XU, refs, goneIn, Nat.beq, Nat.ble, List.isEmpty, ↓reduceIte, sevalprocAttr, hn]
  by_cases h19 : r = 19
  · subst h19; simp (maxSteps := 10000000) -implicitDefEqProofs +contextual (disch := omega) only [e_impl_fieldOk, u_impl_fieldOk, rr_impl_fieldOk, code, protos, Proto.cells, ups, vals, inss, nmds, ei_within, IFits, ↓XD, XU, refs, goneIn, Nat.beq, Nat.ble, List.isEmpty, ↓reduceIte, sevalprocAttr, hn]
  by_cases h20 : r = 20
  · subst h20; simp (maxSteps := 10000000) -implicitDefEqProofs +contextual (disch := omega) only [e_impl_fieldOk, u_impl_fieldOk, rr_impl_fieldOk, code, protos, Proto.cells, ups, vals, inss, nmds, ei_within, IFits, ↓XD, XU, refs, goneIn, Nat.beq, Nat.ble, List.isEmpty, ↓reduceIte, sevalprocAttr, hn]
  simp (maxSteps := 10000000) -implicitDefEqProofs +contextual (disch := omega) only [e_impl_fieldOk, u_impl_fieldOk, rr_impl_fieldOk, code, protos, Proto.cells, ups, vals, inss, nmds, ei_within, IFits, ↓XD, XU, refs, goneIn, Nat.beq, Nat.ble, List.isEmpty, ↓reduceIte, sevalprocAttr, hn, h1, h2, h3, h4, h5, h6, h7, h8, h9, h10, h11, h12, h13, h14, h15, h16, h17, h18, h19, h20]
end Go.Proofs.Tryd.Av
end
section
attribute [local congr] ite_congr
set_option linter.unusedSimpArgs false
set_option linter.unusedVariables false
set_option maxRecDepth 10000
set_option maxHeartbeats 4000000
namespace Go.Proofs.Tryd.Av
open Go Go.Av Classical
def Len4 (x : Option (List Int)) : Prop := ∀ l, x = some l → l.length = 4
theorem len4_ite {c : Prop} [Decidable c] {x y : Option (List Int)} (h1 : Len4 x) (h2 : Len4 y) : Len4 (if c then x else y) := by
  by_cases h : c
  · rw [if_pos h]; exact h1
  · rw [if_neg h]; exact h2
theorem len4_some (a b c d : Int) : Len4 (some [a, b, c, d]) := fun l h => by cases h; rfl
theorem sroles_len4 (o : Int) : Len4 (sroles o) := by
  unfold sroles
  iterate 35 refine len4_ite (len4_some _ _ _ _) ?_
  exact fun l h => by cases h
theorem sroles_len {o : Int} {l : List Int} (h : sroles o = some l) : l.length = 4 := sroles_len4 o l h
theorem lp_insOk (ps : List Proto) (p i0 : Int) (nd : Ins) (rl fl : List Int) (p0 : 0 ≤ p) (p1 : p < ps.length) (hb : ps.length ≤ 1048576) (h : POk (nth ps p)) (hr : rl.length = 4) (hf : fl.length = 4) : match seek (fun (j : Int) => ¬SFits ps.length (nth ps p) (nth rl j) (nth fl j)) 0 4 with | some j => ∃ st, EV A (.loop (B_spec_l6insOk 0)) (⟨[(0, code ps), (1, .int .i64 p), (2, .int .i64 i0), (3, .ptr 0 0 0 1), (6, .bool false), (7, .ptr 1 0 0 1), (8, ints rl), (28, ints fl), (29, .int .i64 4), (30, .int .i64 (0))], [], [.cells 1 [[protos ps]], .cells 5 [nd.cells]], []⟩ : St) = some (.ret, st) ∧ st.per.get 6 = .bool false | none => EV A (.loop (B_spec_l6insOk 0)) (⟨[(0, code ps), (1, .int .i64 p), (2, .int .i64 i0), (3, .ptr 0 0 0 1), (6, .bool false), (7, .ptr 1 0 0 1), (8, ints rl), (28, ints fl), (29, .int .i64 4), (30, .int .i64 (0))], [], [.cells 1 [[protos ps]], .cells 5 [nd.cells]], []⟩ : St) = some (AExit.exit 0, (⟨[(0, code ps), (1, .int .i64 p), (2, .int .i64 i0), (3, .ptr 0 0 0 1), (6, .bool false), (7, .ptr 1 0 0 1), (8, ints rl), (28, ints fl), (29, .int .i64 4), (30, .int .i64 (4))], [], [.cells 1 [[protos ps]], .cells 5 [nd.cells]], []⟩ : St)) := by
  refine loop_seek (fun i => (⟨[(0, code ps), (1, .int .i64 p), (2, .int .i64 i0), (3, .ptr 0 0 0 1), (6, .bool false), (7, .ptr 1 0 0 1), (8, ints rl), (28, ints fl), (29, .int .i64 4), (30, .int .i64 i)], [], [.cells 1 [[protos ps]], .cells 5 [nd.cells]], []⟩ : St)) (fun (j : Int) => ¬SFits ps.length (nth ps p) (nth rl j) (nth fl j)) (fun (j : Int) (st : St) => st.per.get 6 = .bool false) (AExit.exit 0, (⟨[(0, code ps), (1, .int .i64 p), (2, .int .i64 i0), (3, .ptr 0 0 0 1), (6, .bool false), (7, .ptr 1 0 0 1), (8, ints rl), (28, ints fl), (29, .int .i64 4), (30, .int .i64 (4))], [], [.cells 1 [[protos ps]], .cells 5 [nd.cells]], []⟩ : St)) (0) (4) ?_ ?_ ?_ (0) (by omega) (by omega)
  · intro i hi hn hp
    try simp only [Classical.not_not] at hp
    have h39 := ep_l6fits ps p (nth rl i) (nth fl i) p0 p1 hb h; simp only [code, protos] at h39
    refine ⟨_, by simp (maxSteps := 10000000) -implicitDefEqProofs +contextual (disch := omega) only [ub_spec_l6insOk_0, rr_spec_l6insOk, ↓XD, XU, refs, goneIn, Nat.beq, Nat.ble, List.isEmpty, ↓reduceIte, sevalprocAttr, code, protos, Ins.cells, hr, hf, h39, hn, hp]; rfl, by first | (simp [St.next, trim_all]; done) | (simp [St.next, trim_all]; omega) | (simp [St.next, trim, bare, refsL, refs]; done)⟩
  · intro i hi hn hp
    have h39 := ep_l6fits ps p (nth rl i) (nth fl i) p0 p1 hb h; simp only [code, protos] at h39
    refine ⟨_, by simp (maxSteps := 10000000) -implicitDefEqProofs +contextual (disch := omega) only [ub_spec_l6insOk_0, rr_spec_l6insOk, ↓XD, XU, refs, goneIn, Nat.beq, Nat.ble, List.isEmpty, ↓reduceIte, sevalprocAttr, code, protos, Ins.cells, hr, hf, h39, hn, hp]; rfl, by simp [Env.get, Env.put]⟩
  · rintro i hi rfl
    refine ⟨by simp (maxSteps := 10000000) -implicitDefEqProofs +contextual (disch := omega) only [ub_spec_l6insOk_0, rr_spec_l6insOk, ↓XD, XU, refs, goneIn, Nat.beq, Nat.ble, List.isEmpty, ↓reduceIte, sevalprocAttr, code, protos, Ins.cells, hr, hf, Int.lt_irrefl], by simp⟩
def SIns (ps : List Proto) (p i : Int) : Prop :=
  match sroles (nth (nth ps p).Ins i).Op with
  | none => False
  | some rl => seek (fun j => ¬SFits ps.length (nth ps p) (nth rl j) (nth [(nth (nth ps p).Ins i).A, (nth (nth ps p).Ins i).B, (nth (nth ps p).Ins i).C, (nth (nth ps p).Ins i).D] j)) 0 4 = none ∧ (¬i = ((nth ps p).Ins.length : Int) - 1 ∨ (nth (nth ps p).Ins i).Op = 19 ∨ (nth (nth ps p).Ins i).Op = 29 ∨ (nth (nth ps p).Ins i).Op = 30)
theorem ep_l6insOk (ps : List Proto) (p i : Int) (p0 : 0 ≤ p) (p1 : p < ps.length) (hb : ps.length ≤ 1048576) (h : POk (nth ps p)) (i0 : 0 ≤ i) (i1 : i < (nth ps p).Ins.length) : EP A n_spec_l6insOk [code ps, .int .i64 p, .int .i64 i] = some (.bool (decide (SIns ps p i))) := by
  have hi := h.i
  have hR := ep_l6roles (nth (nth ps p).Ins i).Op
  have hF := ep_l6fields (nth (nth ps p).Ins i)
  simp only [Ins.cells] at hF
  rw [SIns]
  cases hs : sroles (nth (nth ps p).Ins i).Op with
  | none =>
    rw [hs] at hR
    simp only [rolesPV] at hR
    simp (maxSteps := 10000000) -implicitDefEqProofs +contextual (disch := omega) only [e_spec_l6insOk, u_spec_l6insOk, rr_spec_l6insOk, code, protos, Proto.cells, inss, Ins.cells, ups, vals, nmds, ↓XD, XU, refs, goneIn, Nat.beq, Nat.ble, List.isEmpty, ↓reduceIte, sevalprocAttr, hR]
  | some rl =>
    rw [hs] at hR
    simp only [rolesPV] at hR
    have hl := sroles_len hs
    have hlp := lp_insOk ps p i (nth (nth ps p).Ins i) rl [(nth (nth ps p).Ins i).A, (nth (nth ps p).Ins i).B, (nth (nth ps p).Ins i).C, (nth (nth ps p).Ins i).D] p0 p1 hb h hl rfl
    dsimp only
    by_cases hk : seek (fun j => ¬SFits ps.length (nth ps p) (nth rl j) (nth [(nth (nth ps p).Ins i).A, (nth (nth ps p).Ins i).B, (nth (nth ps p).Ins i).C, (nth (nth ps p).Ins i).D] j)) 0 4 = none
    · simp only [hk, true_and]
      rw [hk] at hlp
      simp only [code, protos, ints, List.map_cons, List.map_nil, Ins.cells] at hlp hF
      by_cases hlast : i = ((nth ps p).Ins.length : Int) - 1
      · subst hlast
        simp (maxSteps := 10000000) -implicitDefEqProofs +contextual (disch := omega) only [e_spec_l6insOk, u_spec_l6insOk, rr_spec_l6insOk, code, protos, Proto.cells, inss, Ins.cells, ups, vals, nmds, ints, ↓XD, XU, refs, goneIn, Nat.beq, Nat.ble, List.isEmpty, ↓reduceIte, sevalprocAttr, hR, hF, hl, hlp]
        simp [Bool.or_assoc]
      · simp (maxSteps := 10000000) -implicitDefEqProofs +contextual (disch := omega) only [e_spec_l6insOk, u_spec_l6insOk, rr_spec_l6insOk, code, protos, Proto.cells, inss, Ins.cells, ups, vals, nmds, ints, ↓XD, XU, refs, goneIn, Nat.beq, Nat.ble, List.isEmpty, ↓reduceIte, sevalprocAttr, hR, hF, hl, hlp, hlast]
    · simp only [hk, false_and]
      obtain ⟨j, hj⟩ := Option.ne_none_iff_exists'.1 hk
      rw [hj] at hlp
      obtain ⟨st, hlp, hg⟩ := hlp
      simp only [code, protos, ints, List.map_cons, List.map_nil, Ins.cells] at hlp hF
      simp (maxSteps := 10000000) -implicitDefEqProofs +contextual (disch := omega) only [e_spec_l6insOk, u_spec_l6insOk, rr_spec_l6insOk, code, protos, Proto.cells, inss, Ins.cells, ups, vals, nmds, ints, ↓XD, XU, refs, goneIn, Nat.beq, Nat.ble, List.isEmpty, ↓reduceIte, sevalprocAttr, hR, hF, hl, hlp, hg]
end Go.Proofs.Tryd.Av
end
section
attribute [local congr] ite_congr
set_option linter.unusedSimpArgs false
set_option linter.unusedVariables false
set_option maxRecDepth 10000
set_option maxHeartbeats 4000000
namespace Go.Proofs.Tryd.Av
open Go Go.Av Classical
def assocT : List (Int × List Int) → Int → Option (List Int)
  | [], _ => none
  | e :: l, o => if o = e.1 then some e.2 else assocT l o
abbrev rowPV (r : List Int) : PV := .agg (r.map fun x => .int .i64 x)
theorem findKey_tab (o : Int) : ∀ l : List (Int × List Int), findKey 0 (.int .i64 o) (l.map fun e => (.int .i64 e.1, rowPV e.2)) = some ((assocT l o).map rowPV)
  | [] => rfl
  | e :: l => by
    rw [List.map_cons, findKey]
    have h : eqCell 0 (.int .i64 o) (.int .i64 e.1) = some (o == e.1) := by simp [eqCell]
    simp only [h, assocT]
    by_cases he : o = e.1
    · simp [he]
    · have : (o == e.1) = false := by simpa using he
      simp only [this, if_neg he]
      exact findKey_tab o l
noncomputable def iroles (o : Int) : Option (List Int) := assocT rolesT o
theorem glob1 : A.glob 1 = some [.fm (rolesT.map fun e => (.int .i64 e.1, rowPV e.2))] := rfl
theorem lookV_roles (z : PV) (H : Heap) (o : Int) : lookV 0 z true H (.fm (rolesT.map fun e => (.int .i64 e.1, rowPV e.2))) (.int .i64 o) = some (match iroles o with | some r => .tup [rowPV r, .bool true] | none => .tup [z, .bool false]) := by
  simp only [lookV, entriesOf, findKey_tab]
  rw [← iroles]
  cases iroles o <;> rfl
theorem iroles_len (o : Int) : Len4 (iroles o) := by
  unfold iroles rolesT
  simp only [assocT]
  iterate 42 refine len4_ite (len4_some _ _ _ _) ?_
  exact fun l h => by cases h
theorem li_insOk (ps : List Proto) (f : Proto) (nd : Ins) (r0 r1 r2 r3 x0 x1 x2 x3 : Int) (hx : ∀ j : Int, -9223372036854775808 ≤ nth [x0, x1, x2, x3] j ∧ nth [x0, x1, x2, x3] j < 9223372036854775808) (hb : ps.length ≤ 1048576) (h : POk f) : match seek (fun (j : Int) => ¬IFits ps.length f (nth [r0, r1, r2, r3] j) (nth [x0, x1, x2, x3] j)) 0 4 with | some j => ∃ st, EV A (.loop (B_impl_insOk 0)) (⟨[(0, code ps), (1, .agg f.cells), (2, .agg nd.cells), (3, .ptr 0 0 0 1), (4, .ptr 1 0 0 1), (5, .ptr 2 0 0 1), (6, .bool false), (7, .ptr 3 0 0 1), (8, .bool true), (21, rowPV [x0, x1, x2, x3]), (22, .int .i64 (0))], [], [.cells 1 [[protos ps]], .cells 9 [f.cells], .cells 5 [nd.cells], .cells 4 [[.int .i64 r0, .int .i64 r1, .int .i64 r2, .int .i64 r3]]], []⟩ : St) = some (.ret, st) ∧ st.per.get 6 = .bool false | none => EV A (.loop (B_impl_insOk 0)) (⟨[(0, code ps), (1, .agg f.cells), (2, .agg nd.cells), (3, .ptr 0 0 0 1), (4, .ptr 1 0 0 1), (5, .ptr 2 0 0 1), (6, .bool false), (7, .ptr 3 0 0 1), (8, .bool true), (21, rowPV [x0, x1, x2, x3]), (22, .int .i64 (0))], [], [.cells 1 [[protos ps]], .cells 9 [f.cells], .cells 5 [nd.cells], .cells 4 [[.int .i64 r0, .int .i64 r1, .int .i64 r2, .int .i64 r3]]], []⟩ : St) = some (AExit.exit 0, (⟨[(0, code ps), (1, .agg f.cells), (2, .agg nd.cells), (3, .ptr 0 0 0 1), (4, .ptr 1 0 0 1), (5, .ptr 2 0 0 1), (6, .bool false), (7, .ptr 3 0 0 1), (8, .bool true), (21, rowPV [x0, x1, x2, x3]), (22, .int .i64 (4))], [], [.cells 1 [[protos ps]], .cells 9 [f.cells], .cells 5 [nd.cells], .cells 4 [[.int .i64 r0, .int .i64 r1, .int .i64 r2, .int .i64 r3]]], []⟩ : St)) := by
  refine loop_seek (fun i => (⟨[(0, code ps), (1, .agg f.cells), (2, .agg nd.cells), (3, .ptr 0 0 0 1), (4, .ptr 1 0 0 1), (5, .ptr 2 0 0 1), (6, .bool false), (7, .ptr 3 0 0 1), (8, .bool true), (21, rowPV [x0, x1, x2, x3]), (22, .int .i64 i)], [], [.cells 1 [[protos ps]], .cells 9 [f.cells], .cells 5 [nd.cells], .cells 4 [[.int .i64 r0, .int .i64 r1, .int .i64 r2, .int .i64 r3]]], []⟩ : St)) (fun (j : Int) => ¬IFits ps.length f (nth [r0, r1, r2, r3] j) (nth [x0, x1, x2, x3] j)) (fun (j : Int) (st : St) => st.per.get 6 = .bool false) (AExit.exit 0, (⟨[(0, code ps), (1, .agg f.cells), (2, .agg nd.cells), (3, .ptr 0 0 0 1), (4, .ptr 1 0 0 1), (5, .ptr 2 0 0 1), (6, .bool false), (7, .ptr 3 0 0 1), (8, .bool true), (21, rowPV [x0, x1, x2, x3]), (22, .int .i64 (4))], [], [.cells 1 [[protos ps]], .cells 9 [f.cells], .cells 5 [nd.cells], .cells 4 [[.int .i64 r0, .int .i64 r1, .int .i64 r2, .int .i64 r3]]], []⟩ : St)) (0) (4) ?_ ?_ ?_ (0) (by omega) (by omega)
  · intro i hi hn hp
    have h30 := ei_fieldOk ps f (nth [r0, r1, r2, r3] i) (nth [x0, x1, x2, x3] i) (hx i).1 (hx i).2 hb h; simp only [code, protos, Proto.cells, ups, vals, inss, nmds] at h30
    simp only [Classical.not_not] at hp
    have hi4 : i = 0 ∨ i = 1 ∨ i = 2 ∨ i = 3 := by omega
    rcases hi4 with rfl | rfl | rfl | rfl
    all_goals
      simp only [show nth [r0, r1, r2, r3] 0 = r0 from rfl, show nth [r0, r1, r2, r3] 1 = r1 from rfl, show nth [r0, r1, r2, r3] 2 = r2 from rfl, show nth [r0, r1, r2, r3] 3 = r3 from rfl, show nth [x0, x1, x2, x3] 0 = x0 from rfl, show nth [x0, x1, x2, x3] 1 = x1 from rfl, show nth [x0, x1, x2, x3] 2 = x2 from rfl, show nth [x0, x1, x2, x3] 3 = x3 from rfl] at h30 hp
      refine ⟨_, by (simp (maxSteps := 10000000) -implicitDefEqProofs +contextual (disch := omega) only [ub_impl_insOk_0, rr_impl_insOk, code, protos, Proto.cells, ups, vals, inss, nmds, Ins.cells, rowPV, List.map_cons, List.map_nil, takeCells, List.head?_cons, ↓XD, XU, refs, goneIn, Nat.beq, Nat.ble, List.isEmpty, ↓reduceIte, sevalprocAttr, h30, hp]) <;> rfl, by simp [St.next, trim_all]⟩
  · intro i hi hn hp
    have h30 := ei_fieldOk ps f (nth [r0, r1, r2, r3] i) (nth [x0, x1, x2, x3] i) (hx i).1 (hx i).2 hb h; simp only [code, protos, Proto.cells, ups, vals, inss, nmds] at h30
    have hi4 : i = 0 ∨ i = 1 ∨ i = 2 ∨ i = 3 := by omega
    rcases hi4 with rfl | rfl | rfl | rfl
    all_goals
      simp only [show nth [r0, r1, r2, r3] 0 = r0 from rfl, show nth [r0, r1, r2, r3] 1 = r1 from rfl, show nth [r0, r1, r2, r3] 2 = r2 from rfl, show nth [r0, r1, r2, r3] 3 = r3 from rfl, show nth [x0, x1, x2, x3] 0 = x0 from rfl, show nth [x0, x1, x2, x3] 1 = x1 from rfl, show nth [x0, x1, x2, x3] 2 = x2 from rfl, show nth [x0, x1, x2, x3] 3 = x3 from rfl] at h30 hp
      refine ⟨_, by (simp (maxSteps := 10000000) -implicitDefEqProofs +contextual (disch := omega) only [ub_impl_insOk_0, rr_impl_insOk, code, protos, Proto.cells, ups, vals, inss, nmds, Ins.cells, rowPV, List.map_cons, List.map_nil, takeCells, List.head?_cons, ↓XD, XU, refs, goneIn, Nat.beq, Nat.ble, List.isEmpty, ↓reduceIte, sevalprocAttr, h30, hp]) <;> rfl, by simp [Env.get, Env.put]⟩
  · rintro i hi rfl
    refine ⟨by simp (maxSteps := 10000000) -implicitDefEqProofs +contextual (disch := omega) only [ub_impl_insOk_0, rr_impl_insOk, ↓XD, XU, refs, goneIn, Nat.beq, Nat.ble, List.isEmpty, ↓reduceIte, sevalprocAttr, code, protos, Ins.cells, Int.lt_irrefl], by simp⟩
def IIns (ps : List Proto) (f : Proto) (nd : Ins) : Prop :=
  match iroles nd.Op with
  | none => False
  | some rl => seek (fun j => ¬IFits ps.length f (nth rl j) (nth [nd.A, nd.B, nd.C, nd.D] j)) 0 4 = none
theorem four {l : List Int} (h : l.length = 4) : ∃ a b c d, l = [a, b, c, d] := by
  match l, h with
  | [a, b, c, d], _ => exact ⟨a, b, c, d, rfl⟩
theorem ei_insOk (ps : List Proto) (f : Proto) (nd : Ins) (hx : ∀ j : Int, -9223372036854775808 ≤ nth [nd.A, nd.B, nd.C, nd.D] j ∧ nth [nd.A, nd.B, nd.C, nd.D] j < 9223372036854775808) (hb : ps.length ≤ 1048576) (h : POk f) : EP A n_impl_insOk [code ps, .agg f.cells, .agg nd.cells] = some (.bool (decide (IIns ps f nd))) := by
  have hF := ei_fields nd
  have hL := fun z H => lookV_roles z H nd.Op
  simp only [Ins.cells] at hF
  rw [IIns]
  cases hs : iroles nd.Op with
  | none =>
    simp only [hs] at hL
    simp (maxSteps := 10000000) -implicitDefEqProofs +contextual (disch := omega) only [e_impl_insOk, u_impl_insOk, rr_impl_insOk, glob1, code, protos, Proto.cells, inss, Ins.cells, ups, vals, nmds, ↓XD, XU, refs, goneIn, Nat.beq, Nat.ble, List.isEmpty, ↓reduceIte, sevalprocAttr, hL]
  | some rl =>
    obtain ⟨r0, r1, r2, r3, rfl⟩ := four (iroles_len _ _ hs)
    simp only [hs] at hL
    have hlp := li_insOk ps f nd r0 r1 r2 r3 nd.A nd.B nd.C nd.D hx hb h
    dsimp only
    by_cases hk : seek (fun j => ¬IFits ps.length f (nth [r0, r1, r2, r3] j) (nth [nd.A, nd.B, nd.C, nd.D] j)) 0 4 = none
    · simp only [hk]
      rw [hk] at hlp
      simp only [code, protos, Proto.cells, ups, vals, inss, nmds, Ins.cells, rowPV, List.map_cons, List.map_nil] at hlp hL
      simp (maxSteps := 10000000) -implicitDefEqProofs +contextual (disch := omega) only [e_impl_insOk, u_impl_insOk, rr_impl_insOk, glob1, code, protos, Proto.cells, inss, Ins.cells, ups, vals, nmds, rowPV, List.map_cons, List.map_nil, ↓XD, XU, refs, goneIn, Nat.beq, Nat.ble, List.isEmpty, ↓reduceIte, sevalprocAttr, hL, hF, hlp]
    · simp only [hk]
      obtain ⟨j, hj⟩ := Option.ne_none_iff_exists'.1 hk
      rw [hj] at hlp
      obtain ⟨st, hlp, hg⟩ := hlp
      simp only [code, protos, Proto.cells, ups, vals, inss, nmds, Ins.cells, rowPV, List.map_cons, List.map_nil] at hlp hL
      simp (maxSteps := 10000000) -implicitDefEqProofs +contextual (disch := omega) only [e_impl_insOk, u_impl_insOk, rr_impl_insOk, glob1, code, protos, Proto.cells, inss, Ins.cells, ups, vals, nmds, rowPV, List.map_cons, List.map_nil, ↓XD, XU, refs, goneIn, Nat.beq, Nat.ble, List.isEmpty, ↓reduceIte, sevalprocAttr, hL, hF, hlp, hg]
end Go.Proofs.Tryd.Av
end
section
set_option linter.unusedSimpArgs false
set_option linter.unusedVariables false
set_option maxRecDepth 10000
set_option maxHeartbeats 4000000
namespace Go.Proofs.Tryd.Av
open Go Go.Av Classical
def Pair (np : Nat) (f : Proto) (s i : Int) : Prop := ∀ x, SFits np f s x ↔ IFits np f i x
theorem pairs (np : Nat) (f : Proto) (h : POk f) : Pair np f 0 0 ∧ Pair np f 1 1 ∧ Pair np f 2 2 ∧ Pair np f 3 3 ∧ Pair np f 4 4 ∧ Pair np f 5 5 ∧ Pair np f 6 6 ∧ Pair np f 7 9 ∧ Pair np f 8 10 ∧ Pair np f 9 11 ∧ Pair np f 10 12 ∧ Pair np f 11 7 ∧ Pair np f 12 8 ∧ Pair np f 13 16 ∧ Pair np f 14 17 ∧ Pair np f 15 14 ∧ Pair np f 16 13 ∧ Pair np f 17 15 ∧ Pair np f 18 18 ∧ Pair np f 19 19 ∧ Pair np f 20 20 ∧ Pair np f 21 1 := by
  have g1 := h.r0
  refine ⟨?_, ?_, ?_, ?_, ?_, ?_, ?_, ?_, ?_, ?_, ?_, ?_, ?_, ?_, ?_, ?_, ?_, ?_, ?_, ?_, ?_, ?_⟩
  all_goals
    intro x
    simp [SFits, IFits]
    try (split <;> omega)
theorem roles_same (np : Nat) (f : Proto) (h : POk f) (o : Int) : (sroles o = none ∧ iroles o = none) ∨ ∃ s0 s1 s2 s3 i0 i1 i2 i3, sroles o = some [s0, s1, s2, s3] ∧ iroles o = some [i0, i1, i2, i3] ∧ Pair np f s0 i0 ∧ Pair np f s1 i1 ∧ Pair np f s2 i2 ∧ Pair np f s3 i3 := by
  obtain ⟨p0, p1, p2, p3, p4, p5, p6, p7, p8, p9, p10, p11, p12, p13, p14, p15, p16, p17, p18, p19, p20, p21⟩ := pairs np f h
  by_cases h1 : o = 1
  · subst h1; exact .inr ⟨11, 0, 0, 0, 7, 0, 0, 0, by simp [sroles], by simp [iroles, rolesT, assocT], p11, p0, p0, p0⟩
  by_cases h2 : o = 2
  · subst h2; exact .inr ⟨12, 0, 0, 0, 8, 0, 0, 0, by simp [sroles], by simp [iroles, rolesT, assocT], p12, p0, p0, p0⟩
  by_cases h3 : o = 3
  · subst h3; exact .inr ⟨0, 0, 0, 0, 0, 0, 0, 0, by simp [sroles], by simp [iroles, rolesT, assocT], p0, p0, p0, p0⟩
  by_cases h4 : o = 4
  · subst h4; exact .inr ⟨1, 7, 0, 0, 1, 9, 0, 0, by simp [sroles], by simp [iroles, rolesT, assocT], p1, p7, p0, p0⟩
  by_cases h5 : o = 5
  · subst h5; exact .inr ⟨1, 2, 0, 0, 1, 2, 0, 0, by simp [sroles], by simp [iroles, rolesT, assocT], p1, p2, p0, p0⟩
  by_cases h6 : o = 6
  · subst h6; exact .inr ⟨1, 2, 0, 0, 1, 2, 0, 0, by simp [sroles], by simp [iroles, rolesT, assocT], p1, p2, p0, p0⟩
  by_cases h7 : o = 7
  · subst h7; exact .inr ⟨1, 5, 0, 0, 1, 5, 0, 0, by simp [sroles], by simp [iroles, rolesT, assocT], p1, p5, p0, p0⟩
  by_cases h8 : o = 8
  · subst h8; exact .inr ⟨5, 2, 0, 0, 5, 2, 0, 0, by simp [sroles], by simp [iroles, rolesT, assocT], p5, p2, p0, p0⟩
  by_cases h9 : o = 9
  · subst h9; exact .inr ⟨1, 8, 0, 0, 1, 10, 0, 0, by simp [sroles], by simp [iroles, rolesT, assocT], p1, p8, p0, p0⟩
  by_cases h10 : o = 10
  · subst h10; exact .inr ⟨8, 2, 0, 0, 10, 2, 0, 0, by simp [sroles], by simp [iroles, rolesT, assocT], p8, p2, p0, p0⟩
  by_cases h11 : o = 11
  · subst h11; exact .inr ⟨1, 9, 0, 0, 1, 11, 0, 0, by simp [sroles], by simp [iroles, rolesT, assocT], p1, p9, p0, p0⟩
  by_cases h12 : o = 12
  · subst h12; exact .inr ⟨1, 0, 0, 0, 1, 0, 0, 0, by simp [sroles], by simp [iroles, rolesT, assocT], p1, p0, p0, p0⟩
  by_cases h13 : o = 13
  · subst h13; exact .inr ⟨4, 2, 2, 0, 4, 2, 2, 0, by simp [sroles], by simp [iroles, rolesT, assocT], p4, p2, p2, p0⟩
  by_cases h14 : o = 14
  · subst h14; exact .inr ⟨4, 2, 3, 0, 4, 2, 3, 0, by simp [sroles], by simp [iroles, rolesT, assocT], p4, p2, p3, p0⟩
  by_cases h15 : o = 15
  · subst h15; exact .inr ⟨1, 2, 2, 0, 1, 2, 2, 0, by simp [sroles], by simp [iroles, rolesT, assocT], p1, p2, p2, p0⟩
  by_cases h16 : o = 16
  · subst h16; exact .inr ⟨2, 2, 2, 0, 2, 2, 2, 0, by simp [sroles], by simp [iroles, rolesT, assocT], p2, p2, p2, p0⟩
  by_cases h17 : o = 17
  · subst h17; exact .inr ⟨1, 15, 2, 0, 1, 14, 2, 0, by simp [sroles], by simp [iroles, rolesT, assocT], p1, p15, p2, p0⟩
  by_cases h18 : o = 18
  · subst h18; exact .inr ⟨1, 16, 2, 2, 1, 13, 2, 2, by simp [sroles], by simp [iroles, rolesT, assocT], p1, p16, p2, p2⟩
  by_cases h19 : o = 19
  · subst h19; exact .inr ⟨10, 0, 0, 0, 12, 0, 0, 0, by simp [sroles], by simp [iroles, rolesT, assocT], p10, p0, p0, p0⟩
  by_cases h20 : o = 20
  · subst h20; exact .inr ⟨2, 10, 0, 0, 2, 12, 0, 0, by simp [sroles], by simp [iroles, rolesT, assocT], p2, p10, p0, p0⟩
  by_cases h21 : o = 21
  · subst h21; exact .inr ⟨2, 10, 0, 0, 2, 12, 0, 0, by simp [sroles], by simp [iroles, rolesT, assocT], p2, p10, p0, p0⟩
  by_cases h22 : o = 22
  · subst h22; exact .inr ⟨1, 0, 0, 0, 1, 0, 0, 0, by simp [sroles], by simp [iroles, rolesT, assocT], p1, p0, p0, p0⟩
  by_cases h23 : o = 23
  · subst h23; exact .inr ⟨6, 2, 0, 0, 6, 2, 0, 0, by simp [sroles], by simp [iroles, rolesT, assocT], p6, p2, p0, p0⟩
  by_cases h24 : o = 24
  · subst h24; exact .inr ⟨6, 3, 0, 0, 6, 3, 0, 0, by simp [sroles], by simp [iroles, rolesT, assocT], p6, p3, p0, p0⟩
  by_cases h25 : o = 25
  · subst h25; exact .inr ⟨1, 3, 0, 0, 1, 3, 0, 0, by simp [sroles], by simp [iroles, rolesT, assocT], p1, p3, p0, p0⟩
  by_cases h26 : o = 26
  · subst h26; exact .inr ⟨1, 6, 17, 0, 1, 6, 15, 0, by simp [sroles], by simp [iroles, rolesT, assocT], p1, p6, p17, p0⟩
  by_cases h27 : o = 27
  · subst h27; exact .inr ⟨1, 6, 0, 0, 1, 6, 0, 0, by simp [sroles], by simp [iroles, rolesT, assocT], p1, p6, p0, p0⟩
  by_cases h28 : o = 28
  · subst h28; exact .inr ⟨1, 2, 3, 0, 1, 2, 3, 0, by simp [sroles], by simp [iroles, rolesT, assocT], p1, p2, p3, p0⟩
  by_cases h29 : o = 29
  · subst h29; exact .inr ⟨3, 0, 0, 0, 3, 0, 0, 0, by simp [sroles], by simp [iroles, rolesT, assocT], p3, p0, p0, p0⟩
  by_cases h30 : o = 30
  · subst h30; exact .inr ⟨2, 0, 0, 0, 2, 0, 0, 0, by simp [sroles], by simp [iroles, rolesT, assocT], p2, p0, p0, p0⟩
  by_cases h31 : o = 31
  · subst h31; exact .inr ⟨10, 14, 0, 0, 12, 17, 0, 0, by simp [sroles], by simp [iroles, rolesT, assocT], p10, p14, p0, p0⟩
  by_cases h32 : o = 32
  · subst h32; exact .inr ⟨0, 0, 0, 0, 0, 0, 0, 0, by simp [sroles], by simp [iroles, rolesT, assocT], p0, p0, p0, p0⟩
  by_cases h33 : o = 33
  · subst h33; exact .inr ⟨13, 0, 0, 0, 16, 0, 0, 0, by simp [sroles], by simp [iroles, rolesT, assocT], p13, p0, p0, p0⟩
  by_cases h34 : o = 34
  · subst h34; exact .inr ⟨13, 0, 0, 0, 16, 0, 0, 0, by simp [sroles], by simp [iroles, rolesT, assocT], p13, p0, p0, p0⟩
  by_cases h35 : o = 35
  · subst h35; exact .inr ⟨2, 3, 0, 0, 2, 3, 0, 0, by simp [sroles], by simp [iroles, rolesT, assocT], p2, p3, p0, p0⟩
  by_cases h36 : o = 36
  · subst h36; exact .inr ⟨0, 0, 0, 0, 0, 0, 0, 0, by simp [sroles], by simp [iroles, rolesT, assocT], p0, p0, p0, p0⟩
  by_cases h37 : o = 37
  · subst h37; exact .inr ⟨18, 0, 0, 0, 18, 0, 0, 0, by simp [sroles], by simp [iroles, rolesT, assocT], p18, p0, p0, p0⟩
  by_cases h38 : o = 38
  · subst h38; exact .inr ⟨18, 10, 0, 0, 18, 12, 0, 0, by simp [sroles], by simp [iroles, rolesT, assocT], p18, p10, p0, p0⟩
  by_cases h39 : o = 39
  · subst h39; exact .inr ⟨18, 10, 0, 0, 18, 12, 0, 0, by simp [sroles], by simp [iroles, rolesT, assocT], p18, p10, p0, p0⟩
  by_cases h40 : o = 40
  · subst h40; exact .inr ⟨19, 0, 0, 0, 19, 0, 0, 0, by simp [sroles], by simp [iroles, rolesT, assocT], p19, p0, p0, p0⟩
  by_cases h41 : o = 41
  · subst h41; exact .inr ⟨20, 10, 1, 0, 20, 12, 1, 0, by simp [sroles], by simp [iroles, rolesT, assocT], p20, p10, p1, p0⟩
  by_cases h42 : o = 42
  · subst h42; exact .inr ⟨21, 0, 0, 0, 1, 0, 0, 0, by simp [sroles], by simp [iroles, rolesT, assocT], p21, p0, p0, p0⟩
  exact .inl ⟨by simp [sroles, h1, h2, h3, h4, h5, h6, h7, h8, h9, h10, h11, h12, h13, h14, h15, h16, h17, h18, h19, h20, h21, h22, h23, h24, h25, h26, h27, h28, h29, h30, h31, h32, h33, h34, h35, h36, h37, h38, h39, h40, h41, h42], by simp [iroles, rolesT, assocT, h1, h2, h3, h4, h5, h6, h7, h8, h9, h10, h11, h12, h13, h14, h15, h16, h17, h18, h19, h20, h21, h22, h23, h24, h25, h26, h27, h28, h29, h30, h31, h32, h33, h34, h35, h36, h37, h38, h39, h40, h41, h42]⟩
theorem ins_same (ps : List Proto) (p i : Int) (h : POk (nth ps p)) : SIns ps p i ↔ IIns ps (nth ps p) (nth (nth ps p).Ins i) ∧ (¬i = ((nth ps p).Ins.length : Int) - 1 ∨ (nth (nth ps p).Ins i).Op = 19 ∨ (nth (nth ps p).Ins i).Op = 29 ∨ (nth (nth ps p).Ins i).Op = 30) := by
  rw [SIns, IIns]
  rcases roles_same ps.length (nth ps p) h (nth (nth ps p).Ins i).Op with ⟨h1, h2⟩ | ⟨s0, s1, s2, s3, i0, i1, i2, i3, h1, h2, q0, q1, q2, q3⟩
  · simp [h1, h2]
  · simp only [h1, h2]
    have : ∀ a b c d : Int, seek (fun j => ¬SFits ps.length (nth ps p) (nth [s0, s1, s2, s3] j) (nth [a, b, c, d] j)) 0 4 = seek (fun j => ¬IFits ps.length (nth ps p) (nth [i0, i1, i2, i3] j) (nth [a, b, c, d] j)) 0 4 := fun a b c d => seek_congr fun j j0 j1 => not_congr (by
      have hj : j = 0 ∨ j = 1 ∨ j = 2 ∨ j = 3 := by omega
      rcases hj with rfl | rfl | rfl | rfl
      · exact q0 _
      · exact q1 _
      · exact q2 _
      · exact q3 _)
    rw [this]
end Go.Proofs.Tryd.Av
end
section
attribute [local congr] ite_congr
set_option linter.unusedSimpArgs false
set_option linter.unusedVariables false
set_option maxRecDepth 10000
set_option maxHeartbeats 4000000
namespace Go.Proofs.Tryd.Av
open Go Go.Av Classical
def VBare (v : Val) (num flt str ref : Bool) : Prop := (num = true ∨ v.Num = 0) ∧ (flt = true ∨ FloatKind.f64.format.order v.Flt 0 = some .eq) ∧ (str = true ∨ v.Str.toList = (⟨⟨[]⟩⟩ : ByteArray).toList) ∧ (ref = true ∨ v.Ref = 0)
theorem ep_l1zero (v : Val) (num flt str ref : Bool) : EP A n_spec_l1zero [.agg v.cells, .bool num, .bool flt, .bool str, .bool ref] = some (.bool (decide (VBare v num flt str ref))) := by
  simp (maxSteps := 10000000) -implicitDefEqProofs +contextual (disch := omega) only [e_spec_l1zero, u_spec_l1zero, rr_spec_l1zero, Val.cells, VBare, ↓XD, XU, refs, goneIn, Nat.beq, Nat.ble, List.isEmpty, ↓reduceIte, sevalprocAttr]
  simp [Bool.and_assoc]
theorem ei_bare (v : Val) (num flt str ref : Bool) : EP A n_impl_bare [.agg v.cells, .bool num, .bool flt, .bool str, .bool ref] = some (.bool (decide (VBare v num flt str ref))) := by
  simp (maxSteps := 10000000) -implicitDefEqProofs +contextual (disch := omega) only [e_impl_bare, u_impl_bare, rr_impl_bare, Val.cells, VBare, ↓XD, XU, refs, goneIn, Nat.beq, Nat.ble, List.isEmpty, ↓reduceIte, sevalprocAttr]
  simp [Bool.and_assoc]
def VOk (v : Val) : Prop :=
  if v.Kind = 0 then VBare v false false false false else if v.Kind = 1 then VBare v true false false false ∧ (v.Num = 0 ∨ v.Num = 1) else if v.Kind = 2 then VBare v true false false false
  else if v.Kind = 3 then VBare v false true false false else if v.Kind = 4 then VBare v false false true false ∧ (v.Str.size : Int) ≤ 4000 else if v.Kind = 5 ∨ v.Kind = 6 ∨ v.Kind = 7 then VBare v false false false true ∧ 0 ≤ v.Ref
  else if v.Kind = 8 then VBare v true false false false ∧ 0 ≤ v.Num ∧ v.Num < 15 else False
theorem ep_ValueOk (v : Val) : EP A n_spec_ValueOk [.agg v.cells] = some (.bool (decide (VOk v))) := by
  obtain ⟨K, N, F, S, R⟩ := v
  have hz := fun a b c d => ep_l1zero ⟨K, N, F, S, R⟩ a b c d
  simp only [Val.cells] at hz
  by_cases h0 : K = 0
  · subst h0; simp (maxSteps := 10000000) -implicitDefEqProofs +contextual (disch := omega) only [e_spec_ValueOk, u_spec_ValueOk, rr_spec_ValueOk, Val.cells, VOk, ↓XD, XU, refs, goneIn, Nat.beq, Nat.ble, List.isEmpty, ↓reduceIte, sevalprocAttr, hz]
  by_cases h1 : K = 1
  · subst h1; simp (maxSteps := 10000000) -implicitDefEqProofs +contextual (disch := omega) only [e_spec_ValueOk, u_spec_ValueOk, rr_spec_ValueOk, Val.cells, VOk, ↓XD, XU, refs, goneIn, Nat.beq, Nat.ble, List.isEmpty, ↓reduceIte, sevalprocAttr, hz]
  by_cases h2 : K = 2
  · subst h2; simp (maxSteps := 10000000) -implicitDefEqProofs +contextual (disch := omega) only [e_spec_ValueOk, u_spec_ValueOk, rr_spec_ValueOk, Val.cells, VOk, ↓XD, XU, refs, goneIn, Nat.beq, Nat.ble, List.isEmpty, ↓reduceIte, sevalprocAttr, hz]
  by_cases h3 : K = 3
  · subst h3; simp (maxSteps := 10000000) -implicitDefEqProofs +contextual (disch := omega) only [e_spec_ValueOk, u_spec_ValueOk, rr_spec_ValueOk, Val.cells, VOk, ↓XD, XU, refs, goneIn, Nat.beq, Nat.ble, List.isEmpty, ↓reduceIte, sevalprocAttr, hz]
  by_cases h4 : K = 4
  · subst h4; simp (maxSteps := 10000000) -implicitDefEqProofs +contextual (disch := omega) only [e_spec_ValueOk, u_spec_ValueOk, rr_spec_ValueOk, Val.cells, VOk, ↓XD, XU, refs, goneIn, Nat.beq, Nat.ble, List.isEmpty, ↓reduceIte, sevalprocAttr, hz]
  by_cases h5 : K = 5
  · subst h5; simp (maxSteps := 10000000) -implicitDefEqProofs +contextual (disch := omega) only [e_spec_ValueOk, u_spec_ValueOk, rr_spec_ValueOk, Val.cells, VOk, ↓XD, XU, refs, goneIn, Nat.beq, Nat.ble, List.isEmpty, ↓reduceIte, sevalprocAttr, hz]
  by_cases h6 : K = 6
  · subst h6; simp (maxSteps := 10000000) -implicitDefEqProofs +contextual (disch := omega) only [e_spec_ValueOk, u_spec_ValueOk, rr_spec_ValueOk, Val.cells, VOk, ↓XD, XU, refs, goneIn, Nat.beq, Nat.ble, List.isEmpty, ↓reduceIte, sevalprocAttr, hz]
  by_cases h7 : K = 7
  · subst h7; simp (maxSteps := 10000000) -implicitDefEqProofs +contextual (disch := omega) only [e_spec_ValueOk, u_spec_ValueOk, rr_spec_ValueOk, Val.cells, VOk, ↓XD, XU, refs, goneIn, Nat.beq, Nat.ble, List.isEmpty, ↓reduceIte, sevalprocAttr, hz]
  by_cases h8 : K = 8
  · subst h8
    simp (maxSteps := 10000000) -implicitDefEqProofs +contextual (disch := omega) only [e_spec_ValueOk, u_spec_ValueOk, rr_spec_ValueOk, Val.cells, VOk, ↓XD, XU, refs, goneIn, Nat.beq, Nat.ble, List.isEmpty, ↓reduceIte, sevalprocAttr, hz]
    simp [Bool.and_assoc]
  simp (maxSteps := 10000000) -implicitDefEqProofs +contextual (disch := omega) only [e_spec_ValueOk, u_spec_ValueOk, rr_spec_ValueOk, Val.cells, VOk, ↓XD, XU, refs, goneIn, Nat.beq, Nat.ble, List.isEmpty, ↓reduceIte, sevalprocAttr, h0, h1, h2, h3, h4, h5, h6, h7, h8]
theorem ei_valueOk (v : Val) : EP A n_impl_valueOk [.agg v.cells] = some (.bool (decide (VOk v))) := by
  obtain ⟨K, N, F, S, R⟩ := v
  have hz := fun a b c d => ei_bare ⟨K, N, F, S, R⟩ a b c d
  simp only [Val.cells] at hz
  by_cases h0 : K = 0
  · subst h0; simp (maxSteps := 10000000) -implicitDefEqProofs +contextual (disch := omega) only [e_impl_valueOk, u_impl_valueOk, rr_impl_valueOk, Val.cells, VOk, ↓XD, XU, refs, goneIn, Nat.beq, Nat.ble, List.isEmpty, ↓reduceIte, sevalprocAttr, hz]
  by_cases h1 : K = 1
  · subst h1; simp (maxSteps := 10000000) -implicitDefEqProofs +contextual (disch := omega) only [e_impl_valueOk, u_impl_valueOk, rr_impl_valueOk, Val.cells, VOk, ↓XD, XU, refs, goneIn, Nat.beq, Nat.ble, List.isEmpty, ↓reduceIte, sevalprocAttr, hz]
  by_cases h2 : K = 2
  · subst h2; simp (maxSteps := 10000000) -implicitDefEqProofs +contextual (disch := omega) only [e_impl_valueOk, u_impl_valueOk, rr_impl_valueOk, Val.cells, VOk, ↓XD, XU, refs, goneIn, Nat.beq, Nat.ble, List.isEmpty, ↓reduceIte, sevalprocAttr, hz]
  by_cases h3 : K = 3
  · subst h3; simp (maxSteps := 10000000) -implicitDefEqProofs +contextual (disch := omega) only [e_impl_valueOk, u_impl_valueOk, rr_impl_valueOk, Val.cells, VOk, ↓XD, XU, refs, goneIn, Nat.beq, Nat.ble, List.isEmpty, ↓reduceIte, sevalprocAttr, hz]
  by_cases h4 : K = 4
  · subst h4; simp (maxSteps := 10000000) -implicitDefEqProofs +contextual (disch := omega) only [e_impl_valueOk, u_impl_valueOk, rr_impl_valueOk, Val.cells, VOk, ↓XD, XU, refs, goneIn, Nat.beq, Nat.ble, List.isEmpty, ↓reduceIte, sevalprocAttr, hz]
  by_cases h5 : K = 5
  · subst h5; simp (maxSteps := 10000000) -implicitDefEqProofs +contextual (disch := omega) only [e_impl_valueOk, u_impl_valueOk, rr_impl_valueOk, Val.cells, VOk, ↓XD, XU, refs, goneIn, Nat.beq, Nat.ble, List.isEmpty, ↓reduceIte, sevalprocAttr, hz]
  by_cases h6 : K = 6
  · subst h6; simp (maxSteps := 10000000) -implicitDefEqProofs +contextual (disch := omega) only [e_impl_valueOk, u_impl_valueOk, rr_impl_valueOk, Val.cells, VOk, ↓XD, XU, refs, goneIn, Nat.beq, Nat.ble, List.isEmpty, ↓reduceIte, sevalprocAttr, hz]
  by_cases h7 : K = 7
  · subst h7; simp (maxSteps := 10000000) -implicitDefEqProofs +contextual (disch := omega) only [e_impl_valueOk, u_impl_valueOk, rr_impl_valueOk, Val.cells, VOk, ↓XD, XU, refs, goneIn, Nat.beq, Nat.ble, List.isEmpty, ↓reduceIte, sevalprocAttr, hz]
  by_cases h8 : K = 8
  · subst h8
    simp (maxSteps := 10000000) -implicitDefEqProofs +contextual (disch := omega) only [e_impl_valueOk, u_impl_valueOk, rr_impl_valueOk, Val.cells, VOk, ↓XD, XU, refs, goneIn, Nat.beq, Nat.ble, List.isEmpty, ↓reduceIte, sevalprocAttr, hz]
    simp [Bool.and_assoc]
  simp (maxSteps := 10000000) -implicitDefEqProofs +contextual (disch := omega) only [e_impl_valueOk, u_impl_valueOk, rr_impl_valueOk, Val.cells, VOk, ↓XD, XU, refs, goneIn, Nat.beq, Nat.ble, List.isEmpty, ↓reduceIte, sevalprocAttr, h0, h1, h2, h3, h4, h5, h6, h7, h8]
end Go.Proofs.Tryd.Av
end
section
attribute [local congr] ite_congr
set_option linter.unusedSimpArgs false
set_option linter.unusedVariables false
set_option maxRecDepth 10000
set_option maxHeartbeats 4000000
namespace Go.Proofs.Tryd.Av
open Go Go.Av Classical
theorem order_zero {x : Nat} (h : x < 2 ^ 64) : FloatKind.f64.format.order x 0 = some .eq ↔ x = 0 ∨ x = 9223372036854775808 := by
  constructor
  · intro ho
    have hf : FloatKind.f64.format = Ieee.double := rfl
    rw [hf] at ho
    have h0 : Ieee.double.read 0 = .number false 0 Ieee.double.leastPlace := by decide +kernel
    have hs : Ieee.double.signWeight = 9223372036854775808 := by decide +kernel
    have hb : Ieee.double.binade = 4503599627370496 := by decide +kernel
    unfold Ieee.Format.order at ho
    rw [h0] at ho
    unfold Ieee.Format.read at ho
    simp only [hs, hb] at ho
    have key : ∀ (s : Bool) (m k : Nat), compare (Ieee.signed s m k) (Ieee.signed false 0 0) = .eq → m = 0 := by
      intro s m k hc
      have hc := Std.LawfulEqOrd.eq_of_compare hc
      unfold Ieee.signed at hc
      simp only [Nat.shiftLeft_eq] at hc
      have : (m : Int) * ((2 ^ k : Nat) : Int) = 0 := by split at hc <;> simp at hc ⊢ <;> omega
      have hp : 0 < (2 : Nat) ^ k := Nat.pow_pos (by decide)
      rcases Int.mul_eq_zero.1 this with h | h <;> omega
    split at ho
    · simp only [Ieee.Datum.order, Option.some.injEq] at ho
      have := key _ _ _ ho
      omega
    · split at ho
      · simp only [Ieee.Datum.order, Option.some.injEq] at ho
        have h9 : ∀ b, Ieee.signed false 0 b = Ieee.signed false 0 0 := fun b => by simp [Ieee.signed]
        rw [h9] at ho
        have := key _ _ _ ho
        omega
      · split at ho
        · simp [Ieee.Datum.order] at ho
          split at ho <;> simp at ho
        · simp [Ieee.Datum.order] at ho
  · rintro (rfl | rfl) <;> decide +kernel
theorem quo0 : bin .quo (.flt .f64 4607182418800017408) (.flt .f64 0) = some (.flt .f64 9218868437227405312) := by rfl
theorem quo1 : bin .quo (.flt .f64 4607182418800017408) (.flt .f64 9223372036854775808) = some (.flt .f64 18442240474082181120) := by rfl
theorem ord00 : FloatKind.f64.format.order 0 0 = some .eq := by decide +kernel
theorem ord10 : FloatKind.f64.format.order 9223372036854775808 0 = some .eq := by decide +kernel
theorem ordp : FloatKind.f64.format.order 9218868437227405312 0 = some .gt := by decide +kernel
theorem ordn : FloatKind.f64.format.order 18442240474082181120 0 = some .lt := by decide +kernel
def VConst (v : Val) : Prop := VOk v ∧ ¬v.Kind = 5 ∧ ¬v.Kind = 6 ∧ ¬v.Kind = 7 ∧ (v.Kind = 3 → FloatKind.f64.format.order v.Flt v.Flt = some .eq) ∧ (¬v.Kind = 3 → v.Flt = 0)
theorem vok_flt {v : Val} (hv : VOk v) (h3 : ¬v.Kind = 3) : FloatKind.f64.format.order v.Flt 0 = some .eq := by
  unfold VOk VBare at hv
  by_cases h0 : v.Kind = 0
  · simp only [h0, if_true] at hv; simpa using hv.2.1
  by_cases h1 : v.Kind = 1
  · simp only [h0, h1, if_true, if_false] at hv; simpa using hv.1.2.1
  by_cases h2 : v.Kind = 2
  · simp only [h0, h1, h2, if_true, if_false] at hv; simpa using hv.2.1
  by_cases h4 : v.Kind = 4
  · simp only [h0, h1, h2, h3, h4, if_true, if_false] at hv; simpa using hv.1.2.1
  by_cases h5 : v.Kind = 5 ∨ v.Kind = 6 ∨ v.Kind = 7
  · simp only [h0, h1, h2, h3, h4, h5, if_true, if_false] at hv; simpa using hv.1.2.1
  by_cases h8 : v.Kind = 8
  · simp only [h0, h1, h2, h3, h4, h5, h8, if_true, if_false] at hv; simpa using hv.1.2.1
  simp only [h0, h1, h2, h3, h4, h5, h8, if_false] at hv
theorem ep_l6constOk (v : Val) (hf : v.Flt < 2 ^ 64) : EP A n_spec_l6constOk [.agg v.cells] = some (.bool (decide (VConst v))) := by
  have hz := ep_ValueOk v
  simp only [Val.cells] at hz
  by_cases hv : VOk v
  · by_cases h5 : v.Kind = 5
    · simp only [hv, h5] at hz
      simp (maxSteps := 10000000) -implicitDefEqProofs +contextual (disch := omega) only [e_spec_l6constOk, u_spec_l6constOk, rr_spec_l6constOk, Val.cells, VConst, ↓XD, XU, refs, goneIn, Nat.beq, Nat.ble, List.isEmpty, ↓reduceIte, sevalprocAttr, hz, hv, h5]
      try simp
    by_cases h6 : v.Kind = 6
    · simp only [hv, h6] at hz
      simp (maxSteps := 10000000) -implicitDefEqProofs +contextual (disch := omega) only [e_spec_l6constOk, u_spec_l6constOk, rr_spec_l6constOk, Val.cells, VConst, ↓XD, XU, refs, goneIn, Nat.beq, Nat.ble, List.isEmpty, ↓reduceIte, sevalprocAttr, hz, hv, h6]
      try simp
    by_cases h7 : v.Kind = 7
    · simp only [hv, h7] at hz
      simp (maxSteps := 10000000) -implicitDefEqProofs +contextual (disch := omega) only [e_spec_l6constOk, u_spec_l6constOk, rr_spec_l6constOk, Val.cells, VConst, ↓XD, XU, refs, goneIn, Nat.beq, Nat.ble, List.isEmpty, ↓reduceIte, sevalprocAttr, hz, hv, h7]
      try simp
    by_cases h3 : v.Kind = 3
    · simp only [hv, h3] at hz
      simp (maxSteps := 10000000) -implicitDefEqProofs +contextual (disch := omega) only [e_spec_l6constOk, u_spec_l6constOk, rr_spec_l6constOk, Val.cells, VConst, ↓XD, XU, refs, goneIn, Nat.beq, Nat.ble, List.isEmpty, ↓reduceIte, sevalprocAttr, hz, hv, h3]
      try simp
    · rcases (order_zero hf).1 (vok_flt hv h3) with h | h
      · simp only [hv, h] at hz
        simp (maxSteps := 10000000) -implicitDefEqProofs +contextual (disch := omega) only [e_spec_l6constOk, u_spec_l6constOk, rr_spec_l6constOk, Val.cells, VConst, ↓XD, XU, refs, goneIn, Nat.beq, Nat.ble, List.isEmpty, ↓reduceIte, sevalprocAttr, hz, hv, h3, h5, h6, h7, h, quo0, ord00, ordp]
        try simp
      · simp only [hv, h] at hz
        simp (maxSteps := 10000000) -implicitDefEqProofs +contextual (disch := omega) only [e_spec_l6constOk, u_spec_l6constOk, rr_spec_l6constOk, Val.cells, VConst, ↓XD, XU, refs, goneIn, Nat.beq, Nat.ble, List.isEmpty, ↓reduceIte, sevalprocAttr, hz, hv, h3, h5, h6, h7, h, quo1, ord10, ordn]
        try simp
  · simp only [hv] at hz
    simp (maxSteps := 10000000) -implicitDefEqProofs +contextual (disch := omega) only [e_spec_l6constOk, u_spec_l6constOk, rr_spec_l6constOk, Val.cells, VConst, ↓XD, XU, refs, goneIn, Nat.beq, Nat.ble, List.isEmpty, ↓reduceIte, sevalprocAttr, hz, hv]
theorem ei_Signbit (x : Nat) : EP A n_math_Signbit [.flt .f64 x] = some (.bool (decide (IntKind.i64.wrap x < 0))) := by
  simp (maxSteps := 10000000) -implicitDefEqProofs +contextual (disch := omega) only [e_math_Signbit, u_math_Signbit, rr_math_Signbit, ↓XD, XU, refs, goneIn, Nat.beq, Nat.ble, List.isEmpty, ↓reduceIte, sevalprocAttr]
theorem sb0 : ¬IntKind.i64.wrap ((0 : Nat) : Int) < 0 := by decide
theorem sb1 : IntKind.i64.wrap ((9223372036854775808 : Nat) : Int) < 0 := by decide
theorem ep_l6fault (a b c : Int) : EP A n_spec_l6fault [.int .i64 a, .int .i64 b, .int .i64 c] = some (.agg [.int .i64 a, .int .i64 b, .int .i64 c]) := by
  simp (maxSteps := 10000000) -implicitDefEqProofs +contextual (disch := omega) only [e_spec_l6fault, u_spec_l6fault, rr_spec_l6fault, ↓XD, XU, refs, goneIn, Nat.beq, Nat.ble, List.isEmpty, ↓reduceIte, sevalprocAttr]
def Most (f : Proto) : Int := if f.Rest then f.Regs - 1 else f.Regs
def HeadP (f : Proto) (p : Int) : Prop := ((((((f.Name.size : Int) ≤ 40 ∧ 0 ≤ f.Line ∧ f.Line ≤ 100000) ∧ 0 ≤ f.Regs ∧ f.Regs ≤ 250) ∧ 0 ≤ f.Params ∧ f.Params ≤ Most f) ∧ (f.Ups.length : Int) ≤ 250) ∧ (f.Consts.length : Int) ≤ 500) ∧ (0 < p ∨ f.Params = 0 ∧ f.Ups.length = 0)
theorem ep_l6headOk (ps : List Proto) (p : Int) (p0 : 0 ≤ p) (p1 : p < ps.length) (hb : ps.length ≤ 1048576) (hu : (nth ps p).Ups.length ≤ 1048576) (hc : (nth ps p).Consts.length ≤ 1048576) : EP A n_spec_l6headOk [code ps, .int .i64 p] = some (.bool (decide (HeadP (nth ps p) p))) := by
  have e0 : ((nth ps p).Ups.length : Int) = 0 ↔ (nth ps p).Ups.length = 0 := by omega
  by_cases hr : (nth ps p).Rest
  · by_cases hA : (((((nth ps p).Name.size : Int) ≤ 40 ∧ 0 ≤ (nth ps p).Line ∧ (nth ps p).Line ≤ 100000) ∧ 0 ≤ (nth ps p).Regs ∧ (nth ps p).Regs ≤ 250) ∧ 0 ≤ (nth ps p).Params ∧ (nth ps p).Params ≤ (nth ps p).Regs - 1)
    · by_cases hq : 0 < p
      · simp (maxSteps := 10000000) -implicitDefEqProofs +contextual (disch := omega) only [e_spec_l6headOk, u_spec_l6headOk, rr_spec_l6headOk, code, protos, Proto.cells, ups, vals, inss, nmds, ep_l6in, HeadP, Most, ↓XD, XU, refs, goneIn, Nat.beq, Nat.ble, List.isEmpty, ↓reduceIte, sevalprocAttr, hr, hA, hq]
      · by_cases hP : (nth ps p).Params = 0
        · simp (maxSteps := 10000000) -implicitDefEqProofs +contextual (disch := omega) only [e_spec_l6headOk, u_spec_l6headOk, rr_spec_l6headOk, code, protos, Proto.cells, ups, vals, inss, nmds, ep_l6in, HeadP, Most, ↓XD, XU, refs, goneIn, Nat.beq, Nat.ble, List.isEmpty, ↓reduceIte, sevalprocAttr, hr, hA, hq, hP, e0]
        · simp (maxSteps := 10000000) -implicitDefEqProofs +contextual (disch := omega) only [e_spec_l6headOk, u_spec_l6headOk, rr_spec_l6headOk, code, protos, Proto.cells, ups, vals, inss, nmds, ep_l6in, HeadP, Most, ↓XD, XU, refs, goneIn, Nat.beq, Nat.ble, List.isEmpty, ↓reduceIte, sevalprocAttr, hr, hA, hq, hP, e0]
    · simp (maxSteps := 10000000) -implicitDefEqProofs +contextual (disch := omega) only [e_spec_l6headOk, u_spec_l6headOk, rr_spec_l6headOk, code, protos, Proto.cells, ups, vals, inss, nmds, ep_l6in, HeadP, Most, ↓XD, XU, refs, goneIn, Nat.beq, Nat.ble, List.isEmpty, ↓reduceIte, sevalprocAttr, hr, hA]
  · by_cases hA : (((((nth ps p).Name.size : Int) ≤ 40 ∧ 0 ≤ (nth ps p).Line ∧ (nth ps p).Line ≤ 100000) ∧ 0 ≤ (nth ps p).Regs ∧ (nth ps p).Regs ≤ 250) ∧ 0 ≤ (nth ps p).Params ∧ (nth ps p).Params ≤ (nth ps p).Regs)
    · by_cases hq : 0 < p
      · simp (maxSteps := 10000000) -implicitDefEqProofs +contextual (disch := omega) only [e_spec_l6headOk, u_spec_l6headOk, rr_spec_l6headOk, code, protos, Proto.cells, ups, vals, inss, nmds, ep_l6in, HeadP, Most, ↓XD, XU, refs, goneIn, Nat.beq, Nat.ble, List.isEmpty, ↓reduceIte, sevalprocAttr, hr, hA, hq]
      · by_cases hP : (nth ps p).Params = 0
        · simp (maxSteps := 10000000) -implicitDefEqProofs +contextual (disch := omega) only [e_spec_l6headOk, u_spec_l6headOk, rr_spec_l6headOk, code, protos, Proto.cells, ups, vals, inss, nmds, ep_l6in, HeadP, Most, ↓XD, XU, refs, goneIn, Nat.beq, Nat.ble, List.isEmpty, ↓reduceIte, sevalprocAttr, hr, hA, hq, hP, e0]
        · simp (maxSteps := 10000000) -implicitDefEqProofs +contextual (disch := omega) only [e_spec_l6headOk, u_spec_l6headOk, rr_spec_l6headOk, code, protos, Proto.cells, ups, vals, inss, nmds, ep_l6in, HeadP, Most, ↓XD, XU, refs, goneIn, Nat.beq, Nat.ble, List.isEmpty, ↓reduceIte, sevalprocAttr, hr, hA, hq, hP, e0]
    · simp (maxSteps := 10000000) -implicitDefEqProofs +contextual (disch := omega) only [e_spec_l6headOk, u_spec_l6headOk, rr_spec_l6headOk, code, protos, Proto.cells, ups, vals, inss, nmds, ep_l6in, HeadP, Most, ↓XD, XU, refs, goneIn, Nat.beq, Nat.ble, List.isEmpty, ↓reduceIte, sevalprocAttr, hr, hA]
def NmdP (p : Proto) (n : Nmd) (i : Int) : Prop := i < 500 ∧ (1 ≤ (n.Name.size : Int) ∧ (n.Name.size : Int) ≤ 40) ∧ (0 ≤ n.Reg ∧ n.Reg ≤ p.Regs - 1) ∧ 0 ≤ n.From ∧ n.From ≤ n.To ∧ n.To ≤ p.Ins.length
theorem ep_l6namedOk (p : Proto) (i : Int) (hp : POk p) (i0 : 0 ≤ i) (i1 : i < p.Named.length) : EP A n_spec_l6namedOk [.agg p.cells, .int .i64 i] = some (.bool (decide (NmdP p (nth p.Named i) i))) := by
  have := hp.n
  have := hp.i
  have := hp.r1
  have := hp.r0
  simp (maxSteps := 10000000) -implicitDefEqProofs +contextual (disch := omega) only [e_spec_l6namedOk, u_spec_l6namedOk, rr_spec_l6namedOk, Proto.cells, ups, vals, inss, nmds, Nmd.cells, ep_l6in, NmdP, ↓XD, XU, refs, goneIn, Nat.beq, Nat.ble, List.isEmpty, ↓reduceIte, sevalprocAttr]
  rw [Option.some.injEq, PV.bool.injEq, Bool.eq_iff_iff]; simp [and_assoc]
def UpP (p : Proto) (u : Up) : Prop := if u.Local then 0 ≤ u.Index ∧ u.Index ≤ p.Regs - 1 else 0 ≤ u.Index ∧ u.Index ≤ (p.Ups.length : Int) - 1
theorem lp_upsOk (ps : List Proto) (p g : Int) (l : List Up) (p0 : 0 ≤ p) (p1 : p < ps.length) (hb : ps.length ≤ 1048576) (h : POk (nth ps p)) (hl : l.length ≤ 1048576) : match seek (fun (j : Int) => ¬UpP (nth ps p) (nth l j)) 0 l.length with | some j => ∃ st, EV A (.loop (B_spec_l6upsOk 0)) (⟨[(0, code ps), (1, .int .i64 p), (2, .int .i64 g), (3, .ptr 0 0 0 1), (6, .bool false), (14, ups l), (15, .int .i64 l.length), (16, .int .i64 (0))], [], [.cells 1 [[protos ps]]], []⟩ : St) = some (.ret, st) ∧ st.per.get 6 = .bool false | none => EV A (.loop (B_spec_l6upsOk 0)) (⟨[(0, code ps), (1, .int .i64 p), (2, .int .i64 g), (3, .ptr 0 0 0 1), (6, .bool false), (14, ups l), (15, .int .i64 l.length), (16, .int .i64 (0))], [], [.cells 1 [[protos ps]]], []⟩ : St) = some (AExit.exit 0, (⟨[(0, code ps), (1, .int .i64 p), (2, .int .i64 g), (3, .ptr 0 0 0 1), (6, .bool false), (14, ups l), (15, .int .i64 l.length), (16, .int .i64 (l.length))], [], [.cells 1 [[protos ps]]], []⟩ : St)) := by
  refine loop_seek (fun i => (⟨[(0, code ps), (1, .int .i64 p), (2, .int .i64 g), (3, .ptr 0 0 0 1), (6, .bool false), (14, ups l), (15, .int .i64 l.length), (16, .int .i64 i)], [], [.cells 1 [[protos ps]]], []⟩ : St)) (fun (j : Int) => ¬UpP (nth ps p) (nth l j)) (fun (j : Int) (st : St) => st.per.get 6 = .bool false) (AExit.exit 0, (⟨[(0, code ps), (1, .int .i64 p), (2, .int .i64 g), (3, .ptr 0 0 0 1), (6, .bool false), (14, ups l), (15, .int .i64 l.length), (16, .int .i64 (l.length))], [], [.cells 1 [[protos ps]]], []⟩ : St)) (0) (l.length) ?_ ?_ ?_ (0) (by omega) (by omega)
  · intro i hi hn hp
    try simp only [Classical.not_not] at hp
    have g1 := h.r0; have g2 := h.r1; have g3 := h.u
    simp only [UpP] at hp
    by_cases hL : (nth l i).Local = true
    · try simp only [hL, if_true, if_false, Bool.false_eq_true] at hp
      refine ⟨_, by simp (maxSteps := 10000000) -implicitDefEqProofs +contextual (disch := omega) only [ub_spec_l6upsOk_0, rr_spec_l6upsOk, ↓XD, XU, refs, goneIn, Nat.beq, Nat.ble, List.isEmpty, ↓reduceIte, sevalprocAttr, code, protos, ups, Up.cells, UpP, ep_l6in, hL, hn, hp]; rfl, by first | (simp [St.next, trim_all, hL]; done) | (simp [St.next, trim_all, hL]; omega) | (simp [St.next, trim, bare, refsL, refs, hL]; done)⟩
    · try simp only [hL, if_true, if_false, Bool.false_eq_true] at hp
      refine ⟨_, by simp (maxSteps := 10000000) -implicitDefEqProofs +contextual (disch := omega) only [ub_spec_l6upsOk_0, rr_spec_l6upsOk, ↓XD, XU, refs, goneIn, Nat.beq, Nat.ble, List.isEmpty, ↓reduceIte, sevalprocAttr, code, protos, ups, Up.cells, UpP, ep_l6in, hL, hn, hp]; rfl, by first | (simp [St.next, trim_all, hL]; done) | (simp [St.next, trim_all, hL]; omega) | (simp [St.next, trim, bare, refsL, refs, hL]; done)⟩
  · intro i hi hn hp
    have g1 := h.r0; have g2 := h.r1; have g3 := h.u
    simp only [UpP] at hp
    by_cases hL : (nth l i).Local = true
    · try simp only [hL, if_true, if_false, Bool.false_eq_true] at hp
      refine ⟨_, by simp (maxSteps := 10000000) -implicitDefEqProofs +contextual (disch := omega) only [ub_spec_l6upsOk_0, rr_spec_l6upsOk, ↓XD, XU, refs, goneIn, Nat.beq, Nat.ble, List.isEmpty, ↓reduceIte, sevalprocAttr, code, protos, ups, Up.cells, UpP, ep_l6in, hL, hn, hp]; rfl, by simp [ResAt, Env.get, Env.put]⟩
    · try simp only [hL, if_true, if_false, Bool.false_eq_true] at hp
      refine ⟨_, by simp (maxSteps := 10000000) -implicitDefEqProofs +contextual (disch := omega) only [ub_spec_l6upsOk_0, rr_spec_l6upsOk, ↓XD, XU, refs, goneIn, Nat.beq, Nat.ble, List.isEmpty, ↓reduceIte, sevalprocAttr, code, protos, ups, Up.cells, UpP, ep_l6in, hL, hn, hp]; rfl, by simp [ResAt, Env.get, Env.put]⟩
  · rintro i hi rfl
    refine ⟨by simp (maxSteps := 10000000) -implicitDefEqProofs +contextual (disch := omega) only [ub_spec_l6upsOk_0, rr_spec_l6upsOk, ↓XD, XU, refs, goneIn, Nat.beq, Nat.ble, List.isEmpty, ↓reduceIte, sevalprocAttr, code, protos, ups, Up.cells, UpP, ep_l6in, Int.lt_irrefl], by simp⟩
def UpsP (p : Proto) (l : List Up) : Prop := seek (fun j => ¬UpP p (nth l j)) 0 l.length = none
theorem ep_l6upsOk (ps : List Proto) (p g : Int) (p0 : 0 ≤ p) (p1 : p < ps.length) (hb : ps.length ≤ 1048576) (h : POk (nth ps p)) (g0 : 0 ≤ g) (g1 : g < ps.length) (hl : (nth ps g).Ups.length ≤ 1048576) : EP A n_spec_l6upsOk [code ps, .int .i64 p, .int .i64 g] = some (.bool (decide (UpsP (nth ps p) (nth ps g).Ups))) := by
  have hlp := lp_upsOk ps p g (nth ps g).Ups p0 p1 hb h hl
  unfold UpsP
  by_cases hk : seek (fun j => ¬UpP (nth ps p) (nth (nth ps g).Ups j)) 0 (nth ps g).Ups.length = none
  · rw [hk] at hlp
    simp only [code, protos, ups] at hlp
    simp (maxSteps := 10000000) -implicitDefEqProofs +contextual (disch := omega) only [e_spec_l6upsOk, u_spec_l6upsOk, rr_spec_l6upsOk, code, protos, Proto.cells, ups, vals, inss, nmds, ↓XD, XU, refs, goneIn, Nat.beq, Nat.ble, List.isEmpty, ↓reduceIte, sevalprocAttr, hlp, hk]
  · obtain ⟨j, hj⟩ := Option.ne_none_iff_exists'.1 hk
    rw [hj] at hlp
    obtain ⟨st, hlp, hg⟩ := hlp
    simp only [code, protos, ups] at hlp
    simp (maxSteps := 10000000) -implicitDefEqProofs +contextual (disch := omega) only [e_spec_l6upsOk, u_spec_l6upsOk, rr_spec_l6upsOk, code, protos, Proto.cells, ups, vals, inss, nmds, ↓XD, XU, refs, goneIn, Nat.beq, Nat.ble, List.isEmpty, ↓reduceIte, sevalprocAttr, hlp, hg, hk]
end Go.Proofs.Tryd.Av
end
section
attribute [local congr] ite_congr
set_option linter.unusedSimpArgs false
set_option linter.unusedVariables false
set_option maxRecDepth 10000
set_option maxHeartbeats 4000000
namespace Go.Proofs.Tryd.Av
open Go Go.Av Classical
abbrev flt3 (c f n : Int) : List PV := [.int .i64 c, .int .i64 f, .int .i64 n]
abbrev fl3 (p : Int × Int × Int) : PV := .agg (flt3 p.1 p.2.1 p.2.2)
abbrev hU (ps : List Proto) : Heap := [.cells 1 [[protos ps]], .cells 3 [[.int .i64 0, .int .i64 0, .int .i64 0]]]
abbrev hP (ps : List Proto) (f : Proto) : Heap := [.cells 1 [[protos ps]], .cells 3 [[.int .i64 0, .int .i64 0, .int .i64 0]], .cells 9 [f.cells]]
def total (ps : List Proto) : Int := ((ps.map fun f => f.Ins.length).sum : Nat)
def totalN (ps : List Proto) (n : Nat) : Int := (((ps.take n).map fun f => f.Ins.length).sum : Nat)
theorem totalN_step (fs : List Proto) {i : Int} (h0 : 0 ≤ i) (h1 : i < fs.length) : totalN fs i.toNat + (nth fs i).Ins.length = totalN fs (i + 1).toNat := by
  have h : i.toNat < fs.length := by omega
  have e : (i + 1).toNat = i.toNat + 1 := by omega
  rw [totalN, totalN, e, List.take_succ_eq_append_getElem h, List.map_append, List.sum_append]
  have : nth fs i = fs[i.toNat] := by
    have := nth_some h0 h1
    rw [List.getElem?_eq_getElem h] at this
    exact (Option.some.inj this).symm
  rw [this]; simp
theorem totalN_le (fs : List Proto) (n : Nat) : 0 ≤ totalN fs n ∧ totalN fs n ≤ total fs := by
  refine ⟨by simp [totalN], ?_⟩
  rw [totalN, total, List.map_take]
  have := (List.take_append_drop n (fs.map fun f => f.Ins.length))
  have h2 : (fs.map fun f => f.Ins.length).sum = ((fs.map fun f => f.Ins.length).take n).sum + ((fs.map fun f => f.Ins.length).drop n).sum := by rw [← List.sum_append, this]
  omega
structure SizeP (q : Proto) : Prop where
  u : q.Ups.length ≤ 1048576
  c : q.Consts.length ≤ 1048576
  i : q.Ins.length ≤ 1048576
  n : q.Named.length ≤ 1048576
  f : ∀ k : Int, (nth q.Consts k).Flt < 2 ^ 64
  x : ∀ k j : Int, -9223372036854775808 ≤ nth [(nth q.Ins k).A, (nth q.Ins k).B, (nth q.Ins k).C, (nth q.Ins k).D] j ∧ nth [(nth q.Ins k).A, (nth q.Ins k).B, (nth q.Ins k).C, (nth q.Ins k).D] j < 9223372036854775808
abbrev SizedP (ps : List Proto) : Prop := ∀ p : Int, SizeP (nth ps p)
theorem HeadP.pok {f : Proto} {p : Int} (h : HeadP f p) (hs : SizeP f) : POk f := ⟨h.1.1.1.1.2.1, h.1.1.1.1.2.2, hs.u, hs.c, hs.i, hs.n⟩
theorem lp_f0 (ps : List Proto) (hb : ps.length ≤ 1048576) (ht : total ps ≤ 1048576) (a0 : Int) (hok0 : a0 = totalN ps ((0) : Int).toNat) : EV A (.loop (B_spec_l6parts 0)) (⟨[(0, code ps), (1, .ptr 0 0 0 1), (2, .ptr 1 0 0 1), (3, .int .i64 a0), (18, protos ps), (19, .int .i64 ps.length), (20, .int .i64 (0))], [], hU ps, []⟩ : St) = some (AExit.exit 0, (⟨[(0, code ps), (1, .ptr 0 0 0 1), (2, .ptr 1 0 0 1), (3, .int .i64 (iter (fun (i : Int) (a : Int) => totalN ps (i + 1).toNat) ((ps.length : Int) - 0).toNat (0) a0)), (18, protos ps), (19, .int .i64 ps.length), (20, .int .i64 (ps.length))], [], hU ps, []⟩ : St)) ∧ (iter (fun (i : Int) (a : Int) => totalN ps (i + 1).toNat) ((ps.length : Int) - 0).toNat (0) a0) = totalN ps ((ps.length) : Int).toNat := by
  refine loop_iter (fun i (a : Int) => (⟨[(0, code ps), (1, .ptr 0 0 0 1), (2, .ptr 1 0 0 1), (3, .int .i64 a), (18, protos ps), (19, .int .i64 ps.length), (20, .int .i64 i)], [], hU ps, []⟩ : St)) (fun (i : Int) (a : Int) => totalN ps (i + 1).toNat) (fun i (a : Int) => a = totalN ps (i : Int).toNat) (fun a => (AExit.exit 0, (⟨[(0, code ps), (1, .ptr 0 0 0 1), (2, .ptr 1 0 0 1), (3, .int .i64 a), (18, protos ps), (19, .int .i64 ps.length), (20, .int .i64 (ps.length))], [], hU ps, []⟩ : St))) (0) (ps.length) ?_ ?_ (0) a0 (by omega) (by omega) hok0
  · intro i a hi hn hok
    have hs := totalN_step ps hi hn; have hs2 := totalN_le ps i.toNat; have hs3 := totalN_le ps (i + 1).toNat
    refine ⟨⟨_, by simp (maxSteps := 10000000) -implicitDefEqProofs +contextual (disch := omega) only [ub_spec_l6parts_0, rr_spec_l6parts, ↓XD, XU, refs, goneIn, Nat.beq, Nat.ble, List.isEmpty, ↓reduceIte, sevalprocAttr, hU, code, protos, Proto.cells, inss, hs, hn, hok]; rfl, by first | (simp [St.next, trim_all]; done) | (simp [St.next, trim_all]; omega) | (simp [St.next, trim, bare, refsL, refs]; done)⟩, by rfl⟩
  · rintro i a hi rfl hok
    refine ⟨by simp (maxSteps := 10000000) -implicitDefEqProofs +contextual (disch := omega) only [ub_spec_l6parts_0, rr_spec_l6parts, ↓XD, XU, refs, goneIn, Nat.beq, Nat.ble, List.isEmpty, ↓reduceIte, sevalprocAttr, hU, code, protos, Proto.cells, inss, Int.lt_irrefl, hok], by simp⟩
theorem lp_f1 (ps : List Proto) (t : Int) (hb : ps.length ≤ 1048576) (hs : SizedP ps) : match seek (fun (j : Int) => ¬HeadP (nth ps j) j) 0 ps.length with | some j => ∃ st, EV A (.loop (B_spec_l6parts 1)) (⟨[(0, code ps), (1, .ptr 0 0 0 1), (2, .ptr 1 0 0 1), (3, .int .i64 t), (18, protos ps), (19, .int .i64 ps.length), (20, .int .i64 ps.length), (47, .int .i64 ps.length), (48, .int .i64 (0))], [], hU ps, []⟩ : St) = some (.ret, st) ∧ ResAt 2 1 3 (flt3 2 j 0) st | none => EV A (.loop (B_spec_l6parts 1)) (⟨[(0, code ps), (1, .ptr 0 0 0 1), (2, .ptr 1 0 0 1), (3, .int .i64 t), (18, protos ps), (19, .int .i64 ps.length), (20, .int .i64 ps.length), (47, .int .i64 ps.length), (48, .int .i64 (0))], [], hU ps, []⟩ : St) = some (AExit.exit 2, (⟨[(0, code ps), (1, .ptr 0 0 0 1), (2, .ptr 1 0 0 1), (3, .int .i64 t), (18, protos ps), (19, .int .i64 ps.length), (20, .int .i64 ps.length), (47, .int .i64 ps.length), (48, .int .i64 (ps.length))], [], hU ps, []⟩ : St)) := by
  refine loop_seek (fun i => (⟨[(0, code ps), (1, .ptr 0 0 0 1), (2, .ptr 1 0 0 1), (3, .int .i64 t), (18, protos ps), (19, .int .i64 ps.length), (20, .int .i64 ps.length), (47, .int .i64 ps.length), (48, .int .i64 i)], [], hU ps, []⟩ : St)) (fun (j : Int) => ¬HeadP (nth ps j) j) (fun (j : Int) (st : St) => ResAt 2 1 3 (flt3 2 j 0) st) (AExit.exit 2, (⟨[(0, code ps), (1, .ptr 0 0 0 1), (2, .ptr 1 0 0 1), (3, .int .i64 t), (18, protos ps), (19, .int .i64 ps.length), (20, .int .i64 ps.length), (47, .int .i64 ps.length), (48, .int .i64 (ps.length))], [], hU ps, []⟩ : St)) (0) (ps.length) ?_ ?_ ?_ (0) (by omega) (by omega)
  · intro i hi hn hp
    try simp only [Classical.not_not] at hp
    have hh := ep_l6headOk ps i hi hn hb (hs i).u (hs i).c
    refine ⟨_, by simp (maxSteps := 10000000) -implicitDefEqProofs +contextual (disch := omega) only [ub_spec_l6parts_1, rr_spec_l6parts, ↓XD, XU, refs, goneIn, Nat.beq, Nat.ble, List.isEmpty, ↓reduceIte, sevalprocAttr, hU, code, protos, ep_l6fault, hh, hn, hp]; rfl, by first | (simp [St.next, trim_all]; done) | (simp [St.next, trim_all]; omega) | (simp [St.next, trim, bare, refsL, refs]; done)⟩
  · intro i hi hn hp
    have hh := ep_l6headOk ps i hi hn hb (hs i).u (hs i).c
    refine ⟨_, by simp (maxSteps := 10000000) -implicitDefEqProofs +contextual (disch := omega) only [ub_spec_l6parts_1, rr_spec_l6parts, ↓XD, XU, refs, goneIn, Nat.beq, Nat.ble, List.isEmpty, ↓reduceIte, sevalprocAttr, hU, code, protos, ep_l6fault, hh, hn, hp]; rfl, by simp [ResAt, Env.get, Env.put]⟩
  · rintro i hi rfl
    refine ⟨by simp (maxSteps := 10000000) -implicitDefEqProofs +contextual (disch := omega) only [ub_spec_l6parts_1, rr_spec_l6parts, ↓XD, XU, refs, goneIn, Nat.beq, Nat.ble, List.isEmpty, ↓reduceIte, sevalprocAttr, hU, code, protos, ep_l6fault, Int.lt_irrefl], by simp⟩
theorem lp_f3 (ps : List Proto) (t fi : Int) (f : Proto) (hb : ps.length ≤ 1048576) (hs : SizeP f) : match seek (fun (j : Int) => ¬VConst (nth f.Consts j)) 0 f.Consts.length with | some j => ∃ st, EV A (.loop (B_spec_l6parts 3)) (⟨[(0, code ps), (1, .ptr 0 0 0 1), (2, .ptr 1 0 0 1), (3, .int .i64 t), (18, protos ps), (19, .int .i64 ps.length), (20, .int .i64 ps.length), (47, .int .i64 ps.length), (48, .int .i64 ps.length), (59, protos ps), (60, .int .i64 ps.length), (61, .int .i64 fi), (8, .ptr 2 0 0 1), (7, .int .i64 fi), (67, vals f.Consts), (68, .int .i64 f.Consts.length), (69, .int .i64 (0))], [], hP ps f, []⟩ : St) = some (.ret, st) ∧ ResAt 2 1 3 (flt3 3 fi j) st | none => EV A (.loop (B_spec_l6parts 3)) (⟨[(0, code ps), (1, .ptr 0 0 0 1), (2, .ptr 1 0 0 1), (3, .int .i64 t), (18, protos ps), (19, .int .i64 ps.length), (20, .int .i64 ps.length), (47, .int .i64 ps.length), (48, .int .i64 ps.length), (59, protos ps), (60, .int .i64 ps.length), (61, .int .i64 fi), (8, .ptr 2 0 0 1), (7, .int .i64 fi), (67, vals f.Consts), (68, .int .i64 f.Consts.length), (69, .int .i64 (0))], [], hP ps f, []⟩ : St) = some (AExit.exit 6, (⟨[(0, code ps), (1, .ptr 0 0 0 1), (2, .ptr 1 0 0 1), (3, .int .i64 t), (18, protos ps), (19, .int .i64 ps.length), (20, .int .i64 ps.length), (47, .int .i64 ps.length), (48, .int .i64 ps.length), (59, protos ps), (60, .int .i64 ps.length), (61, .int .i64 fi), (8, .ptr 2 0 0 1), (7, .int .i64 fi), (67, vals f.Consts), (68, .int .i64 f.Consts.length), (69, .int .i64 (f.Consts.length))], [], hP ps f, []⟩ : St)) := by
  refine loop_seek (fun i => (⟨[(0, code ps), (1, .ptr 0 0 0 1), (2, .ptr 1 0 0 1), (3, .int .i64 t), (18, protos ps), (19, .int .i64 ps.length), (20, .int .i64 ps.length), (47, .int .i64 ps.length), (48, .int .i64 ps.length), (59, protos ps), (60, .int .i64 ps.length), (61, .int .i64 fi), (8, .ptr 2 0 0 1), (7, .int .i64 fi), (67, vals f.Consts), (68, .int .i64 f.Consts.length), (69, .int .i64 i)], [], hP ps f, []⟩ : St)) (fun (j : Int) => ¬VConst (nth f.Consts j)) (fun (j : Int) (st : St) => ResAt 2 1 3 (flt3 3 fi j) st) (AExit.exit 6, (⟨[(0, code ps), (1, .ptr 0 0 0 1), (2, .ptr 1 0 0 1), (3, .int .i64 t), (18, protos ps), (19, .int .i64 ps.length), (20, .int .i64 ps.length), (47, .int .i64 ps.length), (48, .int .i64 ps.length), (59, protos ps), (60, .int .i64 ps.length), (61, .int .i64 fi), (8, .ptr 2 0 0 1), (7, .int .i64 fi), (67, vals f.Consts), (68, .int .i64 f.Consts.length), (69, .int .i64 (f.Consts.length))], [], hP ps f, []⟩ : St)) (0) (f.Consts.length) ?_ ?_ ?_ (0) (by omega) (by omega)
  · intro i hi hn hp
    try simp only [Classical.not_not] at hp
    have hh := ep_l6constOk (nth f.Consts i) (hs.f i); have hc := hs.c; simp only [Val.cells] at hh
    refine ⟨_, by simp (maxSteps := 10000000) -implicitDefEqProofs +contextual (disch := omega) only [ub_spec_l6parts_3, rr_spec_l6parts, ↓XD, XU, refs, goneIn, Nat.beq, Nat.ble, List.isEmpty, ↓reduceIte, sevalprocAttr, hP, code, protos, Proto.cells, vals, Val.cells, ep_l6fault, hh, hn, hp]; rfl, by first | (simp [St.next, trim_all]; done) | (simp [St.next, trim_all]; omega) | (simp [St.next, trim, bare, refsL, refs]; done)⟩
  · intro i hi hn hp
    have hh := ep_l6constOk (nth f.Consts i) (hs.f i); have hc := hs.c; simp only [Val.cells] at hh
    refine ⟨_, by simp (maxSteps := 10000000) -implicitDefEqProofs +contextual (disch := omega) only [ub_spec_l6parts_3, rr_spec_l6parts, ↓XD, XU, refs, goneIn, Nat.beq, Nat.ble, List.isEmpty, ↓reduceIte, sevalprocAttr, hP, code, protos, Proto.cells, vals, Val.cells, ep_l6fault, hh, hn, hp]; rfl, by simp [ResAt, Env.get, Env.put]⟩
  · rintro i hi rfl
    refine ⟨by simp (maxSteps := 10000000) -implicitDefEqProofs +contextual (disch := omega) only [ub_spec_l6parts_3, rr_spec_l6parts, ↓XD, XU, refs, goneIn, Nat.beq, Nat.ble, List.isEmpty, ↓reduceIte, sevalprocAttr, hP, code, protos, Proto.cells, vals, Val.cells, ep_l6fault, Int.lt_irrefl], by simp⟩
noncomputable abbrev badCon (ps : List Proto) (p : Int) : Option Int := seek (fun k => ¬VConst (nth (nth ps p).Consts k)) 0 (nth ps p).Consts.length
theorem lp_f2 (ps : List Proto) (t : Int) (hb : ps.length ≤ 1048576) (hs : SizedP ps) : match seek (fun (j : Int) => badCon ps j ≠ none) 0 ps.length with | some j => ∃ st, EV A (.loop (B_spec_l6parts 2)) (⟨[(0, code ps), (1, .ptr 0 0 0 1), (2, .ptr 1 0 0 1), (3, .int .i64 t), (18, protos ps), (19, .int .i64 ps.length), (20, .int .i64 ps.length), (47, .int .i64 ps.length), (48, .int .i64 ps.length), (59, protos ps), (60, .int .i64 ps.length), (61, .int .i64 (0))], [], hU ps, []⟩ : St) = some (.ret, st) ∧ ResAt 2 1 3 (flt3 3 j ((badCon ps j).getD 0)) st | none => EV A (.loop (B_spec_l6parts 2)) (⟨[(0, code ps), (1, .ptr 0 0 0 1), (2, .ptr 1 0 0 1), (3, .int .i64 t), (18, protos ps), (19, .int .i64 ps.length), (20, .int .i64 ps.length), (47, .int .i64 ps.length), (48, .int .i64 ps.length), (59, protos ps), (60, .int .i64 ps.length), (61, .int .i64 (0))], [], hU ps, []⟩ : St) = some (AExit.exit 4, (⟨[(0, code ps), (1, .ptr 0 0 0 1), (2, .ptr 1 0 0 1), (3, .int .i64 t), (18, protos ps), (19, .int .i64 ps.length), (20, .int .i64 ps.length), (47, .int .i64 ps.length), (48, .int .i64 ps.length), (59, protos ps), (60, .int .i64 ps.length), (61, .int .i64 (ps.length))], [], hU ps, []⟩ : St)) := by
  refine loop_seek (fun i => (⟨[(0, code ps), (1, .ptr 0 0 0 1), (2, .ptr 1 0 0 1), (3, .int .i64 t), (18, protos ps), (19, .int .i64 ps.length), (20, .int .i64 ps.length), (47, .int .i64 ps.length), (48, .int .i64 ps.length), (59, protos ps), (60, .int .i64 ps.length), (61, .int .i64 i)], [], hU ps, []⟩ : St)) (fun (j : Int) => badCon ps j ≠ none) (fun (j : Int) (st : St) => ResAt 2 1 3 (flt3 3 j ((badCon ps j).getD 0)) st) (AExit.exit 4, (⟨[(0, code ps), (1, .ptr 0 0 0 1), (2, .ptr 1 0 0 1), (3, .int .i64 t), (18, protos ps), (19, .int .i64 ps.length), (20, .int .i64 ps.length), (47, .int .i64 ps.length), (48, .int .i64 ps.length), (59, protos ps), (60, .int .i64 ps.length), (61, .int .i64 (ps.length))], [], hU ps, []⟩ : St)) (0) (ps.length) ?_ ?_ ?_ (0) (by omega) (by omega)
  · intro i hi hn hp
    try simp only [Classical.not_not] at hp
    have hl := lp_f3 ps t i (nth ps i) hb (hs i)
    have hp' : badCon ps i = none := (by simpa using hp); unfold badCon at hp'; rw [hp'] at hl
    refine ⟨_, by simp (maxSteps := 10000000) -implicitDefEqProofs +contextual (disch := omega) only [ub_spec_l6parts_2, rr_spec_l6parts, ↓XD, XU, refs, goneIn, Nat.beq, Nat.ble, List.isEmpty, ↓reduceIte, sevalprocAttr, hU, hP, code, protos, Proto.cells, vals, ups, inss, nmds, hl, hn, hp]; rfl, by first | (simp [St.next, trim_all]; done) | (simp [St.next, trim_all]; omega) | (simp [St.next, trim, bare, refsL, refs]; done)⟩
  · intro i hi hn hp
    have hl := lp_f3 ps t i (nth ps i) hb (hs i)
    obtain ⟨k, hk⟩ := Option.ne_none_iff_exists'.1 hp; unfold badCon at hk; rw [hk] at hl; obtain ⟨st, hl, hg⟩ := hl
    refine ⟨_, by simp (maxSteps := 10000000) -implicitDefEqProofs +contextual (disch := omega) only [ub_spec_l6parts_2, rr_spec_l6parts, ↓XD, XU, refs, goneIn, Nat.beq, Nat.ble, List.isEmpty, ↓reduceIte, sevalprocAttr, hU, hP, code, protos, Proto.cells, vals, ups, inss, nmds, hl, hn, hp]; rfl, by unfold badCon; rw [hk]; exact hg⟩
  · rintro i hi rfl
    refine ⟨by simp (maxSteps := 10000000) -implicitDefEqProofs +contextual (disch := omega) only [ub_spec_l6parts_2, rr_spec_l6parts, ↓XD, XU, refs, goneIn, Nat.beq, Nat.ble, List.isEmpty, ↓reduceIte, sevalprocAttr, hU, hP, code, protos, Proto.cells, vals, ups, inss, nmds, Int.lt_irrefl], by simp⟩
theorem lp_f5 (ps : List Proto) (t fi : Int) (f : Proto) (hb : ps.length ≤ 1048576) (hs : POk f) : match seek (fun (j : Int) => ¬NmdP f (nth f.Named j) j) 0 f.Named.length with | some j => ∃ st, EV A (.loop (B_spec_l6parts 5)) (⟨[(0, code ps), (1, .ptr 0 0 0 1), (2, .ptr 1 0 0 1), (3, .int .i64 t), (18, protos ps), (19, .int .i64 ps.length), (20, .int .i64 ps.length), (47, .int .i64 ps.length), (48, .int .i64 ps.length), (59, protos ps), (60, .int .i64 ps.length), (61, .int .i64 ps.length), (83, protos ps), (84, .int .i64 ps.length), (85, .int .i64 fi), (12, .ptr 2 0 0 1), (11, .int .i64 fi), (92, .int .i64 f.Named.length), (93, .int .i64 (0))], [], hP ps f, []⟩ : St) = some (.ret, st) ∧ ResAt 2 1 3 (flt3 4 fi j) st | none => EV A (.loop (B_spec_l6parts 5)) (⟨[(0, code ps), (1, .ptr 0 0 0 1), (2, .ptr 1 0 0 1), (3, .int .i64 t), (18, protos ps), (19, .int .i64 ps.length), (20, .int .i64 ps.length), (47, .int .i64 ps.length), (48, .int .i64 ps.length), (59, protos ps), (60, .int .i64 ps.length), (61, .int .i64 ps.length), (83, protos ps), (84, .int .i64 ps.length), (85, .int .i64 fi), (12, .ptr 2 0 0 1), (11, .int .i64 fi), (92, .int .i64 f.Named.length), (93, .int .i64 (0))], [], hP ps f, []⟩ : St) = some (AExit.exit 10, (⟨[(0, code ps), (1, .ptr 0 0 0 1), (2, .ptr 1 0 0 1), (3, .int .i64 t), (18, protos ps), (19, .int .i64 ps.length), (20, .int .i64 ps.length), (47, .int .i64 ps.length), (48, .int .i64 ps.length), (59, protos ps), (60, .int .i64 ps.length), (61, .int .i64 ps.length), (83, protos ps), (84, .int .i64 ps.length), (85, .int .i64 fi), (12, .ptr 2 0 0 1), (11, .int .i64 fi), (92, .int .i64 f.Named.length), (93, .int .i64 (f.Named.length))], [], hP ps f, []⟩ : St)) := by
  refine loop_seek (fun i => (⟨[(0, code ps), (1, .ptr 0 0 0 1), (2, .ptr 1 0 0 1), (3, .int .i64 t), (18, protos ps), (19, .int .i64 ps.length), (20, .int .i64 ps.length), (47, .int .i64 ps.length), (48, .int .i64 ps.length), (59, protos ps), (60, .int .i64 ps.length), (61, .int .i64 ps.length), (83, protos ps), (84, .int .i64 ps.length), (85, .int .i64 fi), (12, .ptr 2 0 0 1), (11, .int .i64 fi), (92, .int .i64 f.Named.length), (93, .int .i64 i)], [], hP ps f, []⟩ : St)) (fun (j : Int) => ¬NmdP f (nth f.Named j) j) (fun (j : Int) (st : St) => ResAt 2 1 3 (flt3 4 fi j) st) (AExit.exit 10, (⟨[(0, code ps), (1, .ptr 0 0 0 1), (2, .ptr 1 0 0 1), (3, .int .i64 t), (18, protos ps), (19, .int .i64 ps.length), (20, .int .i64 ps.length), (47, .int .i64 ps.length), (48, .int .i64 ps.length), (59, protos ps), (60, .int .i64 ps.length), (61, .int .i64 ps.length), (83, protos ps), (84, .int .i64 ps.length), (85, .int .i64 fi), (12, .ptr 2 0 0 1), (11, .int .i64 fi), (92, .int .i64 f.Named.length), (93, .int .i64 (f.Named.length))], [], hP ps f, []⟩ : St)) (0) (f.Named.length) ?_ ?_ ?_ (0) (by omega) (by omega)
  · intro i hi hn hp
    try simp only [Classical.not_not] at hp
    have hh := ep_l6namedOk f i hs hi hn; have hc := hs.n; simp only [Proto.cells, ups, vals, inss, nmds] at hh
    refine ⟨_, by simp (maxSteps := 10000000) -implicitDefEqProofs +contextual (disch := omega) only [ub_spec_l6parts_5, rr_spec_l6parts, ↓XD, XU, refs, goneIn, Nat.beq, Nat.ble, List.isEmpty, ↓reduceIte, sevalprocAttr, hP, code, protos, Proto.cells, ups, vals, inss, nmds, ep_l6fault, hh, hn, hp]; rfl, by first | (simp [St.next, trim_all]; done) | (simp [St.next, trim_all]; omega) | (simp [St.next, trim, bare, refsL, refs]; done)⟩
  · intro i hi hn hp
    have hh := ep_l6namedOk f i hs hi hn; have hc := hs.n; simp only [Proto.cells, ups, vals, inss, nmds] at hh
    refine ⟨_, by simp (maxSteps := 10000000) -implicitDefEqProofs +contextual (disch := omega) only [ub_spec_l6parts_5, rr_spec_l6parts, ↓XD, XU, refs, goneIn, Nat.beq, Nat.ble, List.isEmpty, ↓reduceIte, sevalprocAttr, hP, code, protos, Proto.cells, ups, vals, inss, nmds, ep_l6fault, hh, hn, hp]; rfl, by simp [ResAt, Env.get, Env.put]⟩
  · rintro i hi rfl
    refine ⟨by simp (maxSteps := 10000000) -implicitDefEqProofs +contextual (disch := omega) only [ub_spec_l6parts_5, rr_spec_l6parts, ↓XD, XU, refs, goneIn, Nat.beq, Nat.ble, List.isEmpty, ↓reduceIte, sevalprocAttr, hP, code, protos, Proto.cells, ups, vals, inss, nmds, ep_l6fault, Int.lt_irrefl], by simp⟩
noncomputable abbrev badNmd (ps : List Proto) (p : Int) : Option Int := seek (fun k => ¬NmdP (nth ps p) (nth (nth ps p).Named k) k) 0 (nth ps p).Named.length
theorem lp_f4 (ps : List Proto) (t : Int) (hb : ps.length ≤ 1048576) (hs : ∀ p : Int, 0 ≤ p → p < ps.length → POk (nth ps p)) : match seek (fun (j : Int) => badNmd ps j ≠ none) 0 ps.length with | some j => ∃ st, EV A (.loop (B_spec_l6parts 4)) (⟨[(0, code ps), (1, .ptr 0 0 0 1), (2, .ptr 1 0 0 1), (3, .int .i64 t), (18, protos ps), (19, .int .i64 ps.length), (20, .int .i64 ps.length), (47, .int .i64 ps.length), (48, .int .i64 ps.length), (59, protos ps), (60, .int .i64 ps.length), (61, .int .i64 ps.length), (83, protos ps), (84, .int .i64 ps.length), (85, .int .i64 (0))], [], hU ps, []⟩ : St) = some (.ret, st) ∧ ResAt 2 1 3 (flt3 4 j ((badNmd ps j).getD 0)) st | none => EV A (.loop (B_spec_l6parts 4)) (⟨[(0, code ps), (1, .ptr 0 0 0 1), (2, .ptr 1 0 0 1), (3, .int .i64 t), (18, protos ps), (19, .int .i64 ps.length), (20, .int .i64 ps.length), (47, .int .i64 ps.length), (48, .int .i64 ps.length), (59, protos ps), (60, .int .i64 ps.length), (61, .int .i64 ps.length), (83, protos ps), (84, .int .i64 ps.length), (85, .int .i64 (0))], [], hU ps, []⟩ : St) = some (AExit.exit 8, (⟨[(0, code ps), (1, .ptr 0 0 0 1), (2, .ptr 1 0 0 1), (3, .int .i64 t), (18, protos ps), (19, .int .i64 ps.length), (20, .int .i64 ps.length), (47, .int .i64 ps.length), (48, .int .i64 ps.length), (59, protos ps), (60, .int .i64 ps.length), (61, .int .i64 ps.length), (83, protos ps), (84, .int .i64 ps.length), (85, .int .i64 (ps.length))], [], hU ps, []⟩ : St)) := by
  refine loop_seek (fun i => (⟨[(0, code ps), (1, .ptr 0 0 0 1), (2, .ptr 1 0 0 1), (3, .int .i64 t), (18, protos ps), (19, .int .i64 ps.length), (20, .int .i64 ps.length), (47, .int .i64 ps.length), (48, .int .i64 ps.length), (59, protos ps), (60, .int .i64 ps.length), (61, .int .i64 ps.length), (83, protos ps), (84, .int .i64 ps.length), (85, .int .i64 i)], [], hU ps, []⟩ : St)) (fun (j : Int) => badNmd ps j ≠ none) (fun (j : Int) (st : St) => ResAt 2 1 3 (flt3 4 j ((badNmd ps j).getD 0)) st) (AExit.exit 8, (⟨[(0, code ps), (1, .ptr 0 0 0 1), (2, .ptr 1 0 0 1), (3, .int .i64 t), (18, protos ps), (19, .int .i64 ps.length), (20, .int .i64 ps.length), (47, .int .i64 ps.length), (48, .int .i64 ps.length), (59, protos ps), (60, .int .i64 ps.length), (61, .int .i64 ps.length), (83, protos ps), (84, .int .i64 ps.length), (85, .int .i64 (ps.length))], [], hU ps, []⟩ : St)) (0) (ps.length) ?_ ?_ ?_ (0) (by omega) (by omega)
  · intro i hi hn hp
    try simp only [Classical.not_not] at hp
    have hl := lp_f5 ps t i (nth ps i) hb (hs i hi hn)
    have hp' : badNmd ps i = none := (by simpa using hp); unfold badNmd at hp'; rw [hp'] at hl
    refine ⟨_, by simp (maxSteps := 10000000) -implicitDefEqProofs +contextual (disch := omega) only [ub_spec_l6parts_4, rr_spec_l6parts, ↓XD, XU, refs, goneIn, Nat.beq, Nat.ble, List.isEmpty, ↓reduceIte, sevalprocAttr, hU, hP, code, protos, Proto.cells, vals, ups, inss, nmds, hl, hn, hp]; rfl, by first | (simp [St.next, trim_all]; done) | (simp [St.next, trim_all]; omega) | (simp [St.next, trim, bare, refsL, refs]; done)⟩
  · intro i hi hn hp
    have hl := lp_f5 ps t i (nth ps i) hb (hs i hi hn)
    obtain ⟨k, hk⟩ := Option.ne_none_iff_exists'.1 hp; unfold badNmd at hk; rw [hk] at hl; obtain ⟨st, hl, hg⟩ := hl
    refine ⟨_, by simp (maxSteps := 10000000) -implicitDefEqProofs +contextual (disch := omega) only [ub_spec_l6parts_4, rr_spec_l6parts, ↓XD, XU, refs, goneIn, Nat.beq, Nat.ble, List.isEmpty, ↓reduceIte, sevalprocAttr, hU, hP, code, protos, Proto.cells, vals, ups, inss, nmds, hl, hn, hp]; rfl, by unfold badNmd; rw [hk]; exact hg⟩
  · rintro i hi rfl
    refine ⟨by simp (maxSteps := 10000000) -implicitDefEqProofs +contextual (disch := omega) only [ub_spec_l6parts_4, rr_spec_l6parts, ↓XD, XU, refs, goneIn, Nat.beq, Nat.ble, List.isEmpty, ↓reduceIte, sevalprocAttr, hU, hP, code, protos, Proto.cells, vals, ups, inss, nmds, Int.lt_irrefl], by simp⟩
theorem lp_f7 (ps : List Proto) (t fi : Int) (f0 : 0 ≤ fi) (f1 : fi < ps.length) (hb : ps.length ≤ 1048576) (hs : POk (nth ps fi)) : match seek (fun (j : Int) => ¬SIns ps fi j) 0 (nth ps fi).Ins.length with | some j => ∃ st, EV A (.loop (B_spec_l6parts 7)) (⟨[(0, code ps), (1, .ptr 0 0 0 1), (2, .ptr 1 0 0 1), (3, .int .i64 t), (18, protos ps), (19, .int .i64 ps.length), (20, .int .i64 ps.length), (47, .int .i64 ps.length), (48, .int .i64 ps.length), (59, protos ps), (60, .int .i64 ps.length), (61, .int .i64 ps.length), (83, protos ps), (84, .int .i64 ps.length), (85, .int .i64 ps.length), (106, protos ps), (107, .int .i64 ps.length), (108, .int .i64 fi), (15, .ptr 2 0 0 1), (14, .int .i64 fi), (121, .int .i64 (nth ps fi).Ins.length), (122, .int .i64 (0))], [], hP ps (nth ps fi), []⟩ : St) = some (.ret, st) ∧ ResAt 2 1 3 (flt3 5 fi j) st | none => EV A (.loop (B_spec_l6parts 7)) (⟨[(0, code ps), (1, .ptr 0 0 0 1), (2, .ptr 1 0 0 1), (3, .int .i64 t), (18, protos ps), (19, .int .i64 ps.length), (20, .int .i64 ps.length), (47, .int .i64 ps.length), (48, .int .i64 ps.length), (59, protos ps), (60, .int .i64 ps.length), (61, .int .i64 ps.length), (83, protos ps), (84, .int .i64 ps.length), (85, .int .i64 ps.length), (106, protos ps), (107, .int .i64 ps.length), (108, .int .i64 fi), (15, .ptr 2 0 0 1), (14, .int .i64 fi), (121, .int .i64 (nth ps fi).Ins.length), (122, .int .i64 (0))], [], hP ps (nth ps fi), []⟩ : St) = some (AExit.exit 14, (⟨[(0, code ps), (1, .ptr 0 0 0 1), (2, .ptr 1 0 0 1), (3, .int .i64 t), (18, protos ps), (19, .int .i64 ps.length), (20, .int .i64 ps.length), (47, .int .i64 ps.length), (48, .int .i64 ps.length), (59, protos ps), (60, .int .i64 ps.length), (61, .int .i64 ps.length), (83, protos ps), (84, .int .i64 ps.length), (85, .int .i64 ps.length), (106, protos ps), (107, .int .i64 ps.length), (108, .int .i64 fi), (15, .ptr 2 0 0 1), (14, .int .i64 fi), (121, .int .i64 (nth ps fi).Ins.length), (122, .int .i64 ((nth ps fi).Ins.length))], [], hP ps (nth ps fi), []⟩ : St)) := by
  refine loop_seek (fun i => (⟨[(0, code ps), (1, .ptr 0 0 0 1), (2, .ptr 1 0 0 1), (3, .int .i64 t), (18, protos ps), (19, .int .i64 ps.length), (20, .int .i64 ps.length), (47, .int .i64 ps.length), (48, .int .i64 ps.length), (59, protos ps), (60, .int .i64 ps.length), (61, .int .i64 ps.length), (83, protos ps), (84, .int .i64 ps.length), (85, .int .i64 ps.length), (106, protos ps), (107, .int .i64 ps.length), (108, .int .i64 fi), (15, .ptr 2 0 0 1), (14, .int .i64 fi), (121, .int .i64 (nth ps fi).Ins.length), (122, .int .i64 i)], [], hP ps (nth ps fi), []⟩ : St)) (fun (j : Int) => ¬SIns ps fi j) (fun (j : Int) (st : St) => ResAt 2 1 3 (flt3 5 fi j) st) (AExit.exit 14, (⟨[(0, code ps), (1, .ptr 0 0 0 1), (2, .ptr 1 0 0 1), (3, .int .i64 t), (18, protos ps), (19, .int .i64 ps.length), (20, .int .i64 ps.length), (47, .int .i64 ps.length), (48, .int .i64 ps.length), (59, protos ps), (60, .int .i64 ps.length), (61, .int .i64 ps.length), (83, protos ps), (84, .int .i64 ps.length), (85, .int .i64 ps.length), (106, protos ps), (107, .int .i64 ps.length), (108, .int .i64 fi), (15, .ptr 2 0 0 1), (14, .int .i64 fi), (121, .int .i64 (nth ps fi).Ins.length), (122, .int .i64 ((nth ps fi).Ins.length))], [], hP ps (nth ps fi), []⟩ : St)) (0) ((nth ps fi).Ins.length) ?_ ?_ ?_ (0) (by omega) (by omega)
  · intro i hi hn hp
    try simp only [Classical.not_not] at hp
    have hh := ep_l6insOk ps fi i f0 f1 hb hs hi hn; have hc := hs.i; simp only [code, protos] at hh
    refine ⟨_, by simp (maxSteps := 10000000) -implicitDefEqProofs +contextual (disch := omega) only [ub_spec_l6parts_7, rr_spec_l6parts, ↓XD, XU, refs, goneIn, Nat.beq, Nat.ble, List.isEmpty, ↓reduceIte, sevalprocAttr, hP, code, protos, ep_l6fault, hh, hn, hp]; rfl, by first | (simp [St.next, trim_all]; done) | (simp [St.next, trim_all]; omega) | (simp [St.next, trim, bare, refsL, refs]; done)⟩
  · intro i hi hn hp
    have hh := ep_l6insOk ps fi i f0 f1 hb hs hi hn; have hc := hs.i; simp only [code, protos] at hh
    refine ⟨_, by simp (maxSteps := 10000000) -implicitDefEqProofs +contextual (disch := omega) only [ub_spec_l6parts_7, rr_spec_l6parts, ↓XD, XU, refs, goneIn, Nat.beq, Nat.ble, List.isEmpty, ↓reduceIte, sevalprocAttr, hP, code, protos, ep_l6fault, hh, hn, hp]; rfl, by simp [ResAt, Env.get, Env.put]⟩
  · rintro i hi rfl
    refine ⟨by simp (maxSteps := 10000000) -implicitDefEqProofs +contextual (disch := omega) only [ub_spec_l6parts_7, rr_spec_l6parts, ↓XD, XU, refs, goneIn, Nat.beq, Nat.ble, List.isEmpty, ↓reduceIte, sevalprocAttr, hP, code, protos, ep_l6fault, Int.lt_irrefl], by simp⟩
noncomputable abbrev badIn (ps : List Proto) (p : Int) : Option Int := if (nth ps p).Ins.length = 0 then some 0 else seek (fun k => ¬SIns ps p k) 0 (nth ps p).Ins.length
theorem lp_f6 (ps : List Proto) (t : Int) (hb : ps.length ≤ 1048576) (hs : ∀ p : Int, 0 ≤ p → p < ps.length → POk (nth ps p)) : match seek (fun (j : Int) => badIn ps j ≠ none) 0 ps.length with | some j => ∃ st, EV A (.loop (B_spec_l6parts 6)) (⟨[(0, code ps), (1, .ptr 0 0 0 1), (2, .ptr 1 0 0 1), (3, .int .i64 t), (18, protos ps), (19, .int .i64 ps.length), (20, .int .i64 ps.length), (47, .int .i64 ps.length), (48, .int .i64 ps.length), (59, protos ps), (60, .int .i64 ps.length), (61, .int .i64 ps.length), (83, protos ps), (84, .int .i64 ps.length), (85, .int .i64 ps.length), (106, protos ps), (107, .int .i64 ps.length), (108, .int .i64 (0))], [], hU ps, []⟩ : St) = some (.ret, st) ∧ ResAt 2 1 3 (flt3 5 j ((badIn ps j).getD 0)) st | none => EV A (.loop (B_spec_l6parts 6)) (⟨[(0, code ps), (1, .ptr 0 0 0 1), (2, .ptr 1 0 0 1), (3, .int .i64 t), (18, protos ps), (19, .int .i64 ps.length), (20, .int .i64 ps.length), (47, .int .i64 ps.length), (48, .int .i64 ps.length), (59, protos ps), (60, .int .i64 ps.length), (61, .int .i64 ps.length), (83, protos ps), (84, .int .i64 ps.length), (85, .int .i64 ps.length), (106, protos ps), (107, .int .i64 ps.length), (108, .int .i64 (0))], [], hU ps, []⟩ : St) = some (AExit.exit 12, (⟨[(0, code ps), (1, .ptr 0 0 0 1), (2, .ptr 1 0 0 1), (3, .int .i64 t), (18, protos ps), (19, .int .i64 ps.length), (20, .int .i64 ps.length), (47, .int .i64 ps.length), (48, .int .i64 ps.length), (59, protos ps), (60, .int .i64 ps.length), (61, .int .i64 ps.length), (83, protos ps), (84, .int .i64 ps.length), (85, .int .i64 ps.length), (106, protos ps), (107, .int .i64 ps.length), (108, .int .i64 (ps.length))], [], hU ps, []⟩ : St)) := by
  refine loop_seek (fun i => (⟨[(0, code ps), (1, .ptr 0 0 0 1), (2, .ptr 1 0 0 1), (3, .int .i64 t), (18, protos ps), (19, .int .i64 ps.length), (20, .int .i64 ps.length), (47, .int .i64 ps.length), (48, .int .i64 ps.length), (59, protos ps), (60, .int .i64 ps.length), (61, .int .i64 ps.length), (83, protos ps), (84, .int .i64 ps.length), (85, .int .i64 ps.length), (106, protos ps), (107, .int .i64 ps.length), (108, .int .i64 i)], [], hU ps, []⟩ : St)) (fun (j : Int) => badIn ps j ≠ none) (fun (j : Int) (st : St) => ResAt 2 1 3 (flt3 5 j ((badIn ps j).getD 0)) st) (AExit.exit 12, (⟨[(0, code ps), (1, .ptr 0 0 0 1), (2, .ptr 1 0 0 1), (3, .int .i64 t), (18, protos ps), (19, .int .i64 ps.length), (20, .int .i64 ps.length), (47, .int .i64 ps.length), (48, .int .i64 ps.length), (59, protos ps), (60, .int .i64 ps.length), (61, .int .i64 ps.length), (83, protos ps), (84, .int .i64 ps.length), (85, .int .i64 ps.length), (106, protos ps), (107, .int .i64 ps.length), (108, .int .i64 (ps.length))], [], hU ps, []⟩ : St)) (0) (ps.length) ?_ ?_ ?_ (0) (by omega) (by omega)
  · intro i hi hn hp
    have hl := lp_f7 ps t i hi hn hb (hs i hi hn); have e0 : ((nth ps i).Ins.length : Int) = 0 ↔ (nth ps i).Ins.length = 0 := by omega
    have hp' : badIn ps i = none := (by simpa using hp)
    unfold badIn at hp'
    by_cases hz : (nth ps i).Ins.length = 0
    · rw [if_pos hz] at hp'; exact absurd hp' (by simp)
    · rw [if_neg hz] at hp'
      rw [hp'] at hl
      refine ⟨_, by (simp (maxSteps := 10000000) -implicitDefEqProofs +contextual (disch := omega) only [ub_spec_l6parts_6, rr_spec_l6parts, hU, hP, code, protos, Proto.cells, ups, vals, inss, nmds, ↓XD, XU, refs, goneIn, Nat.beq, Nat.ble, List.isEmpty, ↓reduceIte, sevalprocAttr, hn, hz, e0, hl]) <;> rfl, by simp [St.next, trim, bare, refsL, refs]⟩
  · intro i hi hn hp
    have hl := lp_f7 ps t i hi hn hb (hs i hi hn); have e0 : ((nth ps i).Ins.length : Int) = 0 ↔ (nth ps i).Ins.length = 0 := by omega
    obtain ⟨k, hk⟩ := Option.ne_none_iff_exists'.1 hp
    unfold badIn at hk
    by_cases hz : (nth ps i).Ins.length = 0
    · refine ⟨_, by (simp (maxSteps := 10000000) -implicitDefEqProofs +contextual (disch := omega) only [ub_spec_l6parts_6, rr_spec_l6parts, hU, hP, code, protos, Proto.cells, ups, vals, inss, nmds, ↓XD, XU, refs, goneIn, Nat.beq, Nat.ble, List.isEmpty, ↓reduceIte, sevalprocAttr, hn, hz, e0, ep_l6fault]) <;> rfl, by unfold badIn; rw [if_pos hz]; simp [ResAt, Env.get, Env.put]⟩
    · rw [if_neg hz] at hk
      rw [hk] at hl
      obtain ⟨st, hl, hg⟩ := hl
      refine ⟨_, by (simp (maxSteps := 10000000) -implicitDefEqProofs +contextual (disch := omega) only [ub_spec_l6parts_6, rr_spec_l6parts, hU, hP, code, protos, Proto.cells, ups, vals, inss, nmds, ↓XD, XU, refs, goneIn, Nat.beq, Nat.ble, List.isEmpty, ↓reduceIte, sevalprocAttr, hn, hz, e0, hl]) <;> rfl, by unfold badIn; rw [if_neg hz, hk]; exact hg⟩
  · rintro i hi rfl
    refine ⟨by simp (maxSteps := 10000000) -implicitDefEqProofs +contextual (disch := omega) only [ub_spec_l6parts_6, rr_spec_l6parts, ↓XD, XU, refs, goneIn, Nat.beq, Nat.ble, List.isEmpty, ↓reduceIte, sevalprocAttr, hU, code, protos, Int.lt_irrefl], by simp⟩
end Go.Proofs.Tryd.Av
end
section
attribute [local congr] ite_congr
set_option linter.unusedSimpArgs false
set_option linter.unusedVariables false
set_option maxRecDepth 10000
set_option maxHeartbeats 4000000
namespace Go.Proofs.Tryd.Av
open Go Go.Av Classical
def Big (ps : List Proto) : Prop := (ps.length = 0 ∨ 200 < (ps.length : Int)) ∨ 6000 < total ps
noncomputable abbrev badHead (ps : List Proto) : Option Int := seek (fun p => ¬HeadP (nth ps p) p) 0 ps.length
noncomputable abbrev badCons (ps : List Proto) : Option Int := seek (fun j => badCon ps j ≠ none) 0 ps.length
noncomputable abbrev badNmds (ps : List Proto) : Option Int := seek (fun j => badNmd ps j ≠ none) 0 ps.length
noncomputable abbrev badIns (ps : List Proto) : Option Int := seek (fun j => badIn ps j ≠ none) 0 ps.length
noncomputable def parts (ps : List Proto) : Int × Int × Int := if Big ps then (1, 0, 0) else match badHead ps with
  | some f => (2, f, 0)
  | none => match badCons ps with
    | some f => (3, f, (badCon ps f).getD 0)
    | none => match badNmds ps with
      | some f => (4, f, (badNmd ps f).getD 0)
      | none => match badIns ps with
        | some f => (5, f, (badIn ps f).getD 0)
        | none => (0, 0, 0)
theorem heads_pok {ps : List Proto} (hs : SizedP ps) (h : badHead ps = none) (p : Int) (p0 : 0 ≤ p) (p1 : p < ps.length) : POk (nth ps p) :=
  (Classical.not_not.1 (seek_none.1 h p p0 p1)).pok (hs p)
theorem ep_l6parts (ps : List Proto) (hb : ps.length ≤ 1048576) (ht : total ps ≤ 1048576) (hs : SizedP ps) : EP A n_spec_l6parts [code ps] = some (fl3 (parts ps)) := by
  obtain ⟨e0, k0⟩ := lp_f0 ps hb ht 0 (by simp [totalN])
  simp only [k0] at e0
  have hT : totalN ps (ps.length : Int).toNat = total ps := by rw [totalN, total]; simp
  rw [hT] at e0
  have e1 := lp_f1 ps (total ps) hb hs
  have e2 := lp_f2 ps (total ps) hb hs
  have z0 : ((ps.length : Int) = 0) = (ps.length = 0) := by rw [eq_iff_iff]; omega
  by_cases hB : Big ps
  · have hB' := hB
    rw [Big] at hB
    simp (maxSteps := 10000000) -implicitDefEqProofs +contextual (disch := omega) only [e_spec_l6parts, u_spec_l6parts, rr_spec_l6parts, code, protos, ↓XD, XU, refs, goneIn, Nat.beq, Nat.ble, List.isEmpty, ↓reduceIte, sevalprocAttr, ep_l6fault, e0, z0, hB]
    simp [parts, hB']
  · have hB' := hB
    rw [Big] at hB
    cases h1 : badHead ps with
    | some f =>
      unfold badHead at h1
      rw [h1] at e1
      obtain ⟨st, e1, g1, g2⟩ := e1
      simp (maxSteps := 10000000) -implicitDefEqProofs +contextual (disch := omega) only [e_spec_l6parts, u_spec_l6parts, rr_spec_l6parts, code, protos, ↓XD, XU, refs, goneIn, Nat.beq, Nat.ble, List.isEmpty, ↓reduceIte, sevalprocAttr, ep_l6fault, e0, z0, hB, e1, g1, g2]
      simp [parts, hB', badHead, h1]
    | none =>
      have hk := heads_pok hs h1
      have e4 := lp_f4 ps (total ps) hb hk
      have e6 := lp_f6 ps (total ps) hb hk
      unfold badHead at h1
      rw [h1] at e1
      cases h2 : badCons ps with
      | some f =>
        unfold badCons at h2
        rw [h2] at e2
        obtain ⟨st, e2, g1, g2⟩ := e2
        simp (maxSteps := 10000000) -implicitDefEqProofs +contextual (disch := omega) only [e_spec_l6parts, u_spec_l6parts, rr_spec_l6parts, code, protos, ↓XD, XU, refs, goneIn, Nat.beq, Nat.ble, List.isEmpty, ↓reduceIte, sevalprocAttr, ep_l6fault, e0, z0, hB, e1, e2, g1, g2]
        simp [parts, hB', badHead, h1, badCons, h2]
      | none =>
        unfold badCons at h2
        rw [h2] at e2
        cases h3 : badNmds ps with
        | some f =>
          unfold badNmds at h3
          rw [h3] at e4
          obtain ⟨st, e4, g1, g2⟩ := e4
          simp (maxSteps := 10000000) -implicitDefEqProofs +contextual (disch := omega) only [e_spec_l6parts, u_spec_l6parts, rr_spec_l6parts, code, protos, ↓XD, XU, refs, goneIn, Nat.beq, Nat.ble, List.isEmpty, ↓reduceIte, sevalprocAttr, ep_l6fault, e0, z0, hB, e1, e2, e4, g1, g2]
          simp [parts, hB', badHead, h1, badCons, h2, badNmds, h3]
        | none =>
          unfold badNmds at h3
          rw [h3] at e4
          cases h4 : badIns ps with
          | some f =>
            unfold badIns at h4
            rw [h4] at e6
            obtain ⟨st, e6, g1, g2⟩ := e6
            simp (maxSteps := 10000000) -implicitDefEqProofs +contextual (disch := omega) only [e_spec_l6parts, u_spec_l6parts, rr_spec_l6parts, code, protos, ↓XD, XU, refs, goneIn, Nat.beq, Nat.ble, List.isEmpty, ↓reduceIte, sevalprocAttr, ep_l6fault, e0, z0, hB, e1, e2, e4, e6, g1, g2]
            simp [parts, hB', badHead, h1, badCons, h2, badNmds, h3, badIns, h4]
          | none =>
            unfold badIns at h4
            rw [h4] at e6
            simp (maxSteps := 10000000) -implicitDefEqProofs +contextual (disch := omega) only [e_spec_l6parts, u_spec_l6parts, rr_spec_l6parts, code, protos, ↓XD, XU, refs, goneIn, Nat.beq, Nat.ble, List.isEmpty, ↓reduceIte, sevalprocAttr, ep_l6fault, e0, z0, hB, e1, e2, e4, e6]
            simp [parts, hB', badHead, h1, badCons, h2, badNmds, h3, badIns, h4]
theorem parts_zero {ps : List Proto} (h : (parts ps).1 = 0) : parts ps = (0, 0, 0) := by
  revert h; unfold parts; repeat' split
  all_goals (intro h; first | rfl | exact absurd h (by dsimp only; decide))
structure Fine (ps : List Proto) : Prop where
  big : ¬Big ps
  ok : ∀ p : Int, 0 ≤ p → p < ps.length → POk (nth ps p)
  ins : ∀ p : Int, 0 ≤ p → p < ps.length → ∀ i : Int, 0 ≤ i → i < (nth ps p).Ins.length → SIns ps p i
theorem parts_fine {ps : List Proto} (hs : SizedP ps) (h : (parts ps).1 = 0) : Fine ps := by
  rw [parts] at h
  by_cases hB : Big ps
  · rw [if_pos hB] at h; exact absurd h (by decide)
  rw [if_neg hB] at h
  cases h1 : badHead ps with
  | some f => rw [h1] at h; exact absurd h (by dsimp only; decide)
  | none =>
    rw [h1] at h
    cases h2 : badCons ps with
    | some f => rw [h2] at h; exact absurd h (by dsimp only; decide)
    | none =>
      rw [h2] at h
      cases h3 : badNmds ps with
      | some f => rw [h3] at h; exact absurd h (by dsimp only; decide)
      | none =>
        rw [h3] at h
        cases h4 : badIns ps with
        | some f => rw [h4] at h; exact absurd h (by dsimp only; decide)
        | none =>
          refine ⟨hB, heads_pok hs h1, fun p p0 p1 i i0 i1 => ?_⟩
          have h5 : badIn ps p = none := Classical.not_not.1 (seek_none.1 h4 p p0 p1)
          unfold badIn at h5
          split at h5
          · cases h5
          · exact Classical.not_not.1 (seek_none.1 h5 i i0 i1)
theorem fn_b {ps : List Proto} {p i : Int} (h : SIns ps p i) (ho : (nth (nth ps p).Ins i).Op = 11) : 0 ≤ (nth (nth ps p).Ins i).B ∧ (nth (nth ps p).Ins i).B < ps.length := by
  rw [SIns, ho] at h
  have e : sroles 11 = some [1, 9, 0, 0] := by simp [sroles]
  rw [e] at h
  have := Classical.not_not.1 (seek_none.1 h.1 1 (by omega) (by omega))
  rw [show nth [(1 : Int), 9, 0, 0] 1 = 9 from rfl, show ∀ a b c d : Int, nth [a, b, c, d] 1 = b from fun _ _ _ _ => rfl] at this
  simp [SFits] at this
  omega
abbrev bl (l : List Bool) : List (List PV) := l.map fun b => [.bool b]
noncomputable abbrev gMade (ps : List Proto) (p i : Int) (s : List Bool) : List Bool ⊕ Int :=
  if (nth (nth ps p).Ins i).Op = 11 then
    (if ((nth (nth ps p).Ins i).B ≤ p ∨ nth s (nth (nth ps p).Ins i).B = true) ∨ ¬UpsP (nth ps p) (nth ps (nth (nth ps p).Ins i).B).Ups then .inr i
    else .inl (s.set (nth (nth ps p).Ins i).B.toNat true))
  else .inl s
noncomputable abbrev hM (ps : List Proto) (f : Proto) (l : List Bool) : Heap := [.cells 1 [[protos ps]], .cells 3 [[.int .i64 0, .int .i64 0, .int .i64 0]], .cells 3 [[.int .i64 0, .int .i64 0, .int .i64 0]], .cells 1 (bl l), .cells 9 [f.cells]]
theorem lp_t1 (ps : List Proto) (p : Int) (p0 : 0 ≤ p) (p1 : p < ps.length) (hb : ps.length ≤ 1048576) (hf : Fine ps) (a0 : List Bool) (hok0 : a0.length = ps.length) : OnSum (fun (a : List Bool) => EV A (.loop (B_spec_CheckShape 1)) (⟨[(0, code ps), (1, .ptr 0 0 0 1), (2, .ptr 1 0 0 1), (3, .ptr 2 0 0 1), (4, .sl 3 0 ps.length ps.length), (21, protos ps), (22, .int .i64 ps.length), (23, .int .i64 p), (6, .ptr 4 0 0 1), (5, .int .i64 p), (29, inss (nth ps p).Ins), (30, .int .i64 (nth ps p).Ins.length), (31, .int .i64 (0))], [], hM ps (nth ps p) a0, []⟩ : St) = some (AExit.exit 2, (⟨[(0, code ps), (1, .ptr 0 0 0 1), (2, .ptr 1 0 0 1), (3, .ptr 2 0 0 1), (4, .sl 3 0 ps.length ps.length), (21, protos ps), (22, .int .i64 ps.length), (23, .int .i64 p), (6, .ptr 4 0 0 1), (5, .int .i64 p), (29, inss (nth ps p).Ins), (30, .int .i64 (nth ps p).Ins.length), (31, .int .i64 ((nth ps p).Ins.length))], [], hM ps (nth ps p) a, []⟩ : St)) ∧ a.length = ps.length) (fun (r : Int) => ∃ st, EV A (.loop (B_spec_CheckShape 1)) (⟨[(0, code ps), (1, .ptr 0 0 0 1), (2, .ptr 1 0 0 1), (3, .ptr 2 0 0 1), (4, .sl 3 0 ps.length ps.length), (21, protos ps), (22, .int .i64 ps.length), (23, .int .i64 p), (6, .ptr 4 0 0 1), (5, .int .i64 p), (29, inss (nth ps p).Ins), (30, .int .i64 (nth ps p).Ins.length), (31, .int .i64 (0))], [], hM ps (nth ps p) a0, []⟩ : St) = some (.ret, st) ∧ ResAt 2 1 3 (flt3 6 p r) st) (iterx (fun (i : Int) (a : List Bool) => gMade ps p i a) (((nth ps p).Ins.length : Int) - 0).toNat (0) a0) := by
  have hb2 := (hf.ok p p0 p1).i
  refine loop_iterq (P := A) (body := (B_spec_CheckShape 1)) (fun i (a : List Bool) => (⟨[(0, code ps), (1, .ptr 0 0 0 1), (2, .ptr 1 0 0 1), (3, .ptr 2 0 0 1), (4, .sl 3 0 ps.length ps.length), (21, protos ps), (22, .int .i64 ps.length), (23, .int .i64 p), (6, .ptr 4 0 0 1), (5, .int .i64 p), (29, inss (nth ps p).Ins), (30, .int .i64 (nth ps p).Ins.length), (31, .int .i64 i)], [], hM ps (nth ps p) a, []⟩ : St)) (fun (i : Int) (a : List Bool) => gMade ps p i a) (fun i (a : List Bool) => a.length = ps.length) (fun a => (AExit.exit 2, (⟨[(0, code ps), (1, .ptr 0 0 0 1), (2, .ptr 1 0 0 1), (3, .ptr 2 0 0 1), (4, .sl 3 0 ps.length ps.length), (21, protos ps), (22, .int .i64 ps.length), (23, .int .i64 p), (6, .ptr 4 0 0 1), (5, .int .i64 p), (29, inss (nth ps p).Ins), (30, .int .i64 (nth ps p).Ins.length), (31, .int .i64 ((nth ps p).Ins.length))], [], hM ps (nth ps p) a, []⟩ : St))) (fun (r : Int) (st : St) => ResAt 2 1 3 (flt3 6 p r) st) (0) ((nth ps p).Ins.length) ?_ ?_ (0) a0 (by omega) (by omega) hok0
  · intro i a hi hn hok
    have hk := hf.ok p p0 p1
    have hb2 := hk.i
    rw [gMade]
    by_cases h2 : (nth (nth ps p).Ins i).Op = 11
    · rw [if_pos h2]
      have hg1 := fn_b (hf.ins p p0 p1 i hi hn) h2
      have hu := ep_l6upsOk ps p (nth (nth ps p).Ins i).B p0 p1 hb hk hg1.1 hg1.2 (hf.ok _ hg1.1 hg1.2).u
      simp only [code, protos] at hu
      by_cases h3 : ((nth (nth ps p).Ins i).B ≤ p ∨ nth a (nth (nth ps p).Ins i).B = true) ∨ ¬UpsP (nth ps p) (nth ps (nth (nth ps p).Ins i).B).Ups
      · rw [if_pos h3]
        refine ⟨_, by (simp (maxSteps := 10000000) -implicitDefEqProofs +contextual (disch := omega) only [ub_spec_CheckShape_1, rr_spec_CheckShape, hM, code, protos, Proto.cells, ups, vals, inss, nmds, Ins.cells, ↓XD, XU, refs, goneIn, Nat.beq, Nat.ble, List.isEmpty, ↓reduceIte, sevalprocAttr, hn, hok, h2, h3, hu, ep_l6fault]) <;> rfl, by simp [ResAt, Env.get, Env.put]⟩
      · rw [if_neg h3]
        refine ⟨⟨_, by (simp (maxSteps := 10000000) -implicitDefEqProofs +contextual (disch := omega) only [ub_spec_CheckShape_1, rr_spec_CheckShape, hM, code, protos, Proto.cells, ups, vals, inss, nmds, Ins.cells, ↓XD, XU, refs, goneIn, Nat.beq, Nat.ble, List.isEmpty, ↓reduceIte, sevalprocAttr, hn, hok, h2, h3, hu]) <;> rfl, by simp [St.next, trim, bare, refsL, refs]⟩, by simpa using hok⟩
    · rw [if_neg h2]
      refine ⟨⟨_, by (simp (maxSteps := 10000000) -implicitDefEqProofs +contextual (disch := omega) only [ub_spec_CheckShape_1, rr_spec_CheckShape, hM, code, protos, Proto.cells, ups, vals, inss, nmds, Ins.cells, ↓XD, XU, refs, goneIn, Nat.beq, Nat.ble, List.isEmpty, ↓reduceIte, sevalprocAttr, hn, hok, h2]) <;> rfl, by simp [St.next, trim, bare, refsL, refs]⟩, hok⟩
  · rintro i a hi rfl hok
    refine ⟨by simp (maxSteps := 10000000) -implicitDefEqProofs +contextual (disch := omega) only [ub_spec_CheckShape_1, rr_spec_CheckShape, ↓XD, XU, refs, goneIn, Nat.beq, Nat.ble, List.isEmpty, ↓reduceIte, sevalprocAttr, refsL, Int.lt_irrefl, hok], by simp⟩
noncomputable def madeIn (ps : List Proto) (p : Int) (s : List Bool) : List Bool ⊕ Int := iterx (gMade ps p) (((nth ps p).Ins.length : Int) - 0).toNat 0 s
noncomputable abbrev gMades (ps : List Proto) (p : Int) (s : List Bool) : List Bool ⊕ (Int × Int) := match madeIn ps p s with | .inl s' => .inl s' | .inr n => .inr (p, n)
theorem lp_t0 (ps : List Proto) (hb : ps.length ≤ 1048576) (hf : Fine ps) (a0 : List Bool) (hok0 : a0.length = ps.length) : OnSum (fun (a : List Bool) => EV A (.loop (B_spec_CheckShape 0)) (⟨[(0, code ps), (1, .ptr 0 0 0 1), (2, .ptr 1 0 0 1), (3, .ptr 2 0 0 1), (4, .sl 3 0 ps.length ps.length), (21, protos ps), (22, .int .i64 ps.length), (23, .int .i64 (0))], [], [.cells 1 [[protos ps]], .cells 3 [[.int .i64 0, .int .i64 0, .int .i64 0]], .cells 3 [[.int .i64 0, .int .i64 0, .int .i64 0]], .cells 1 (bl a0)], []⟩ : St) = some (AExit.exit 0, (⟨[(0, code ps), (1, .ptr 0 0 0 1), (2, .ptr 1 0 0 1), (3, .ptr 2 0 0 1), (4, .sl 3 0 ps.length ps.length), (21, protos ps), (22, .int .i64 ps.length), (23, .int .i64 (ps.length))], [], [.cells 1 [[protos ps]], .cells 3 [[.int .i64 0, .int .i64 0, .int .i64 0]], .cells 3 [[.int .i64 0, .int .i64 0, .int .i64 0]], .cells 1 (bl a)], []⟩ : St)) ∧ a.length = ps.length) (fun (r : Int × Int) => ∃ st, EV A (.loop (B_spec_CheckShape 0)) (⟨[(0, code ps), (1, .ptr 0 0 0 1), (2, .ptr 1 0 0 1), (3, .ptr 2 0 0 1), (4, .sl 3 0 ps.length ps.length), (21, protos ps), (22, .int .i64 ps.length), (23, .int .i64 (0))], [], [.cells 1 [[protos ps]], .cells 3 [[.int .i64 0, .int .i64 0, .int .i64 0]], .cells 3 [[.int .i64 0, .int .i64 0, .int .i64 0]], .cells 1 (bl a0)], []⟩ : St) = some (.ret, st) ∧ ResAt 2 1 3 (flt3 6 r.1 r.2) st) (iterx (fun (i : Int) (a : List Bool) => gMades ps i a) ((ps.length : Int) - 0).toNat (0) a0) := by
  refine loop_iterq (P := A) (body := (B_spec_CheckShape 0)) (fun i (a : List Bool) => (⟨[(0, code ps), (1, .ptr 0 0 0 1), (2, .ptr 1 0 0 1), (3, .ptr 2 0 0 1), (4, .sl 3 0 ps.length ps.length), (21, protos ps), (22, .int .i64 ps.length), (23, .int .i64 i)], [], [.cells 1 [[protos ps]], .cells 3 [[.int .i64 0, .int .i64 0, .int .i64 0]], .cells 3 [[.int .i64 0, .int .i64 0, .int .i64 0]], .cells 1 (bl a)], []⟩ : St)) (fun (i : Int) (a : List Bool) => gMades ps i a) (fun i (a : List Bool) => a.length = ps.length) (fun a => (AExit.exit 0, (⟨[(0, code ps), (1, .ptr 0 0 0 1), (2, .ptr 1 0 0 1), (3, .ptr 2 0 0 1), (4, .sl 3 0 ps.length ps.length), (21, protos ps), (22, .int .i64 ps.length), (23, .int .i64 (ps.length))], [], [.cells 1 [[protos ps]], .cells 3 [[.int .i64 0, .int .i64 0, .int .i64 0]], .cells 3 [[.int .i64 0, .int .i64 0, .int .i64 0]], .cells 1 (bl a)], []⟩ : St))) (fun (r : Int × Int) (st : St) => ResAt 2 1 3 (flt3 6 r.1 r.2) st) (0) (ps.length) ?_ ?_ (0) a0 (by omega) (by omega) hok0
  · intro i a hi hn hok
    have h2 := lp_t1 ps i hi hn hb hf a hok
    have hI : madeIn ps i a = iterx (fun (n : Int) (a : List Bool) => gMade ps i n a) (((nth ps i).Ins.length : Int) - 0).toNat 0 a := rfl
    rw [← hI] at h2
    rw [gMades]
    cases hr : madeIn ps i a with
    | inl s' =>
      rw [hr] at h2
      obtain ⟨h2, hs'⟩ := h2
      refine ⟨⟨_, by (simp (maxSteps := 10000000) -implicitDefEqProofs +contextual (disch := omega) only [ub_spec_CheckShape_0, rr_spec_CheckShape, hM, code, protos, Proto.cells, ups, vals, inss, nmds, ↓XD, XU, refs, goneIn, Nat.beq, Nat.ble, List.isEmpty, ↓reduceIte, sevalprocAttr, hn, h2, hok]) <;> rfl, by simp [St.next, trim, bare, refsL, refs]⟩, hs'⟩
    | inr n =>
      rw [hr] at h2
      obtain ⟨st, h2, hg2⟩ := h2
      exact ⟨_, by (simp (maxSteps := 10000000) -implicitDefEqProofs +contextual (disch := omega) only [ub_spec_CheckShape_0, rr_spec_CheckShape, hM, code, protos, Proto.cells, ups, vals, inss, nmds, ↓XD, XU, refs, goneIn, Nat.beq, Nat.ble, List.isEmpty, ↓reduceIte, sevalprocAttr, hn, h2, hok]) <;> rfl, hg2⟩
  · rintro i a hi rfl hok
    refine ⟨by simp (maxSteps := 10000000) -implicitDefEqProofs +contextual (disch := omega) only [ub_spec_CheckShape_0, rr_spec_CheckShape, ↓XD, XU, refs, goneIn, Nat.beq, Nat.ble, List.isEmpty, ↓reduceIte, sevalprocAttr, refsL, Int.lt_irrefl, hok], by simp⟩
theorem lp_t2 (ps : List Proto) (l : List Bool) (hb : ps.length ≤ 1048576) (h1 : 1 ≤ ps.length) (hl : l.length = ps.length) : match seek (fun (j : Int) => ¬nth l j = true) 1 ps.length with | some j => ∃ st, EV A (.loop (B_spec_CheckShape 2)) (⟨[(0, code ps), (1, .ptr 0 0 0 1), (2, .ptr 1 0 0 1), (3, .ptr 2 0 0 1), (4, .sl 3 0 ps.length ps.length), (21, protos ps), (22, .int .i64 ps.length), (23, .int .i64 ps.length), (9, .int .i64 (1))], [], [.cells 1 [[protos ps]], .cells 3 [[.int .i64 0, .int .i64 0, .int .i64 0]], .cells 3 [[.int .i64 0, .int .i64 0, .int .i64 0]], .cells 1 (bl l)], []⟩ : St) = some (.ret, st) ∧ ResAt 2 1 3 (flt3 7 j 0) st | none => EV A (.loop (B_spec_CheckShape 2)) (⟨[(0, code ps), (1, .ptr 0 0 0 1), (2, .ptr 1 0 0 1), (3, .ptr 2 0 0 1), (4, .sl 3 0 ps.length ps.length), (21, protos ps), (22, .int .i64 ps.length), (23, .int .i64 ps.length), (9, .int .i64 (1))], [], [.cells 1 [[protos ps]], .cells 3 [[.int .i64 0, .int .i64 0, .int .i64 0]], .cells 3 [[.int .i64 0, .int .i64 0, .int .i64 0]], .cells 1 (bl l)], []⟩ : St) = some (AExit.exit 4, (⟨[(0, code ps), (1, .ptr 0 0 0 1), (2, .ptr 1 0 0 1), (3, .ptr 2 0 0 1), (4, .sl 3 0 ps.length ps.length), (21, protos ps), (22, .int .i64 ps.length), (23, .int .i64 ps.length), (9, .int .i64 (ps.length))], [], [.cells 1 [[protos ps]], .cells 3 [[.int .i64 0, .int .i64 0, .int .i64 0]], .cells 3 [[.int .i64 0, .int .i64 0, .int .i64 0]], .cells 1 (bl l)], []⟩ : St)) := by
  refine loop_seek (fun i => (⟨[(0, code ps), (1, .ptr 0 0 0 1), (2, .ptr 1 0 0 1), (3, .ptr 2 0 0 1), (4, .sl 3 0 ps.length ps.length), (21, protos ps), (22, .int .i64 ps.length), (23, .int .i64 ps.length), (9, .int .i64 i)], [], [.cells 1 [[protos ps]], .cells 3 [[.int .i64 0, .int .i64 0, .int .i64 0]], .cells 3 [[.int .i64 0, .int .i64 0, .int .i64 0]], .cells 1 (bl l)], []⟩ : St)) (fun (j : Int) => ¬nth l j = true) (fun (j : Int) (st : St) => ResAt 2 1 3 (flt3 7 j 0) st) (AExit.exit 4, (⟨[(0, code ps), (1, .ptr 0 0 0 1), (2, .ptr 1 0 0 1), (3, .ptr 2 0 0 1), (4, .sl 3 0 ps.length ps.length), (21, protos ps), (22, .int .i64 ps.length), (23, .int .i64 ps.length), (9, .int .i64 (ps.length))], [], [.cells 1 [[protos ps]], .cells 3 [[.int .i64 0, .int .i64 0, .int .i64 0]], .cells 3 [[.int .i64 0, .int .i64 0, .int .i64 0]], .cells 1 (bl l)], []⟩ : St)) (1) (ps.length) ?_ ?_ ?_ (1) (by omega) (by omega)
  · intro i hi hn hp
    try simp only [Classical.not_not] at hp
    refine ⟨_, by simp (maxSteps := 10000000) -implicitDefEqProofs +contextual (disch := omega) only [ub_spec_CheckShape_2, rr_spec_CheckShape, ↓XD, XU, refs, goneIn, Nat.beq, Nat.ble, List.isEmpty, ↓reduceIte, sevalprocAttr, code, protos, ep_l6fault, hl, hn, hp]; rfl, by first | (simp [St.next, trim_all]; done) | (simp [St.next, trim_all]; omega) | (simp [St.next, trim, bare, refsL, refs]; done)⟩
  · intro i hi hn hp
    refine ⟨_, by simp (maxSteps := 10000000) -implicitDefEqProofs +contextual (disch := omega) only [ub_spec_CheckShape_2, rr_spec_CheckShape, ↓XD, XU, refs, goneIn, Nat.beq, Nat.ble, List.isEmpty, ↓reduceIte, sevalprocAttr, code, protos, ep_l6fault, hl, hn, hp]; rfl, by simp [ResAt, Env.get, Env.put]⟩
  · rintro i hi rfl
    refine ⟨by simp (maxSteps := 10000000) -implicitDefEqProofs +contextual (disch := omega) only [ub_spec_CheckShape_2, rr_spec_CheckShape, ↓XD, XU, refs, goneIn, Nat.beq, Nat.ble, List.isEmpty, ↓reduceIte, sevalprocAttr, code, protos, ep_l6fault, hl, Int.lt_irrefl], by simp⟩
noncomputable def madeAll (ps : List Proto) : List Bool ⊕ (Int × Int) := iterx (gMades ps) ((ps.length : Int) - 0).toNat 0 (List.replicate ps.length false)
noncomputable def specFault (ps : List Proto) : Int × Int × Int := if (parts ps).1 ≠ 0 then parts ps else match madeAll ps with
  | .inr r => (6, r.1, r.2)
  | .inl l => match seek (fun j => ¬nth l j = true) 1 ps.length with
    | some f => (7, f, 0)
    | none => (0, 0, 0)
theorem ep_CheckShape (ps : List Proto) (hb : ps.length ≤ 1048576) (ht : total ps ≤ 1048576) (hs : SizedP ps) : EP A n_spec_CheckShape [code ps] = some (fl3 (specFault ps)) := by
  have e1 := ep_l6parts ps hb ht hs
  simp only [code, protos] at e1
  rw [specFault]
  by_cases h1 : (parts ps).1 = 0
  · have hf := parts_fine hs h1
    have hp := parts_zero h1
    have hL1 : 1 ≤ ps.length := by have := hf.big; rw [Big] at this; omega
    rw [if_neg (by simpa using h1)]
    rw [hp] at e1
    have e7 := lp_t0 ps hb hf (List.replicate ps.length false) (by simp)
    have hI : madeAll ps = iterx (fun (f : Int) (a : List Bool) => gMades ps f a) ((ps.length : Int) - 0).toNat 0 (List.replicate ps.length false) := rfl
    rw [← hI] at e7
    cases k7 : madeAll ps with
    | inr r =>
      rw [k7] at e7
      obtain ⟨st, e7, g1, g2⟩ := e7
      simp only [bl, code, protos] at e7
      simp (maxSteps := 10000000) -implicitDefEqProofs +contextual (disch := omega) only [e_spec_CheckShape, u_spec_CheckShape, rr_spec_CheckShape, code, protos, ↓XD, XU, refs, goneIn, Nat.beq, Nat.ble, List.isEmpty, ↓reduceIte, sevalprocAttr, e1, e7, g1, g2]
    | inl l =>
      rw [k7] at e7
      obtain ⟨e7, hl⟩ := e7
      simp only [bl, code, protos] at e7
      have e8 := lp_t2 ps l hb hL1 hl
      simp only [bl, code, protos] at e8
      dsimp only
      cases k8 : seek (fun j => ¬nth l j = true) 1 ps.length with
      | some f =>
        rw [k8] at e8
        obtain ⟨st, e8, g1, g2⟩ := e8
        simp (maxSteps := 10000000) -implicitDefEqProofs +contextual (disch := omega) only [e_spec_CheckShape, u_spec_CheckShape, rr_spec_CheckShape, code, protos, ↓XD, XU, refs, goneIn, Nat.beq, Nat.ble, List.isEmpty, ↓reduceIte, sevalprocAttr, e1, e7, e8, g1, g2]
      | none =>
        rw [k8] at e8
        simp (maxSteps := 10000000) -implicitDefEqProofs +contextual (disch := omega) only [e_spec_CheckShape, u_spec_CheckShape, rr_spec_CheckShape, code, protos, ↓XD, XU, refs, goneIn, Nat.beq, Nat.ble, List.isEmpty, ↓reduceIte, sevalprocAttr, e1, e7, e8]
  · rw [if_pos (by simpa using h1)]
    simp (maxSteps := 10000000) -implicitDefEqProofs +contextual (disch := omega) only [e_spec_CheckShape, u_spec_CheckShape, rr_spec_CheckShape, code, protos, ↓XD, XU, refs, goneIn, Nat.beq, Nat.ble, List.isEmpty, ↓reduceIte, sevalprocAttr, e1, h1]
end Go.Proofs.Tryd.Av
end
section
attribute [local congr] ite_congr
set_option linter.unusedSimpArgs false
set_option linter.unusedVariables false
set_option maxRecDepth 10000
set_option maxHeartbeats 4000000
namespace Go.Proofs.Tryd.Av
open Go Go.Av Classical
theorem li_0 (ps : List Proto) (hb : ps.length ≤ 1048576) (ht : total ps ≤ 1048576) (a0 : Int) (hok0 : a0 = totalN ps ((0) : Int).toNat) : EV A (.loop (B_impl_CheckShape 0)) (⟨[(0, code ps), (1, .ptr 0 0 0 1), (2, .ptr 1 0 0 1), (3, .int .i64 a0), (31, protos ps), (32, .int .i64 ps.length), (33, .int .i64 (0))], [], hU ps, []⟩ : St) = some (AExit.exit 0, (⟨[(0, code ps), (1, .ptr 0 0 0 1), (2, .ptr 1 0 0 1), (3, .int .i64 (iter (fun (i : Int) (a : Int) => totalN ps (i + 1).toNat) ((ps.length : Int) - 0).toNat (0) a0)), (31, protos ps), (32, .int .i64 ps.length), (33, .int .i64 (ps.length))], [], hU ps, []⟩ : St)) ∧ (iter (fun (i : Int) (a : Int) => totalN ps (i + 1).toNat) ((ps.length : Int) - 0).toNat (0) a0) = totalN ps ((ps.length) : Int).toNat := by
  refine loop_iter (fun i (a : Int) => (⟨[(0, code ps), (1, .ptr 0 0 0 1), (2, .ptr 1 0 0 1), (3, .int .i64 a), (31, protos ps), (32, .int .i64 ps.length), (33, .int .i64 i)], [], hU ps, []⟩ : St)) (fun (i : Int) (a : Int) => totalN ps (i + 1).toNat) (fun i (a : Int) => a = totalN ps (i : Int).toNat) (fun a => (AExit.exit 0, (⟨[(0, code ps), (1, .ptr 0 0 0 1), (2, .ptr 1 0 0 1), (3, .int .i64 a), (31, protos ps), (32, .int .i64 ps.length), (33, .int .i64 (ps.length))], [], hU ps, []⟩ : St))) (0) (ps.length) ?_ ?_ (0) a0 (by omega) (by omega) hok0
  · intro i a hi hn hok
    have hs := totalN_step ps hi hn; have hs2 := totalN_le ps i.toNat; have hs3 := totalN_le ps (i + 1).toNat
    refine ⟨⟨_, by simp (maxSteps := 10000000) -implicitDefEqProofs +contextual (disch := omega) only [ub_impl_CheckShape_0, rr_impl_CheckShape, ↓XD, XU, refs, goneIn, Nat.beq, Nat.ble, List.isEmpty, ↓reduceIte, sevalprocAttr, hU, code, protos, Proto.cells, inss, hs, hn, hok]; rfl, by first | (simp [St.next, trim_all]; done) | (simp [St.next, trim_all]; omega) | (simp [St.next, trim, bare, refsL, refs]; done)⟩, by rfl⟩
  · rintro i a hi rfl hok
    refine ⟨by simp (maxSteps := 10000000) -implicitDefEqProofs +contextual (disch := omega) only [ub_impl_CheckShape_0, rr_impl_CheckShape, ↓XD, XU, refs, goneIn, Nat.beq, Nat.ble, List.isEmpty, ↓reduceIte, sevalprocAttr, hU, code, protos, Proto.cells, inss, Int.lt_irrefl, hok], by simp⟩
theorem li_1 (ps : List Proto) (t : Int) (hb : ps.length ≤ 1048576) (hs : SizedP ps) : match seek (fun (j : Int) => ¬HeadP (nth ps j) j) 0 ps.length with | some j => ∃ st, EV A (.loop (B_impl_CheckShape 1)) (⟨[(0, code ps), (1, .ptr 0 0 0 1), (2, .ptr 1 0 0 1), (3, .int .i64 t), (31, protos ps), (32, .int .i64 ps.length), (33, .int .i64 ps.length), (59, protos ps), (60, .int .i64 ps.length), (61, .int .i64 (0))], [], hU ps, []⟩ : St) = some (.ret, st) ∧ ResAt 2 1 3 (flt3 2 j 0) st | none => EV A (.loop (B_impl_CheckShape 1)) (⟨[(0, code ps), (1, .ptr 0 0 0 1), (2, .ptr 1 0 0 1), (3, .int .i64 t), (31, protos ps), (32, .int .i64 ps.length), (33, .int .i64 ps.length), (59, protos ps), (60, .int .i64 ps.length), (61, .int .i64 (0))], [], hU ps, []⟩ : St) = some (AExit.exit 2, (⟨[(0, code ps), (1, .ptr 0 0 0 1), (2, .ptr 1 0 0 1), (3, .int .i64 t), (31, protos ps), (32, .int .i64 ps.length), (33, .int .i64 ps.length), (59, protos ps), (60, .int .i64 ps.length), (61, .int .i64 (ps.length))], [], hU ps, []⟩ : St)) := by
  refine loop_seek (fun i => (⟨[(0, code ps), (1, .ptr 0 0 0 1), (2, .ptr 1 0 0 1), (3, .int .i64 t), (31, protos ps), (32, .int .i64 ps.length), (33, .int .i64 ps.length), (59, protos ps), (60, .int .i64 ps.length), (61, .int .i64 i)], [], hU ps, []⟩ : St)) (fun (j : Int) => ¬HeadP (nth ps j) j) (fun (j : Int) (st : St) => ResAt 2 1 3 (flt3 2 j 0) st) (AExit.exit 2, (⟨[(0, code ps), (1, .ptr 0 0 0 1), (2, .ptr 1 0 0 1), (3, .int .i64 t), (31, protos ps), (32, .int .i64 ps.length), (33, .int .i64 ps.length), (59, protos ps), (60, .int .i64 ps.length), (61, .int .i64 (ps.length))], [], hU ps, []⟩ : St)) (0) (ps.length) ?_ ?_ ?_ (0) (by omega) (by omega)
  · intro i hi hn hp
    simp only [Classical.not_not] at hp
    obtain ⟨⟨⟨⟨⟨⟨hN, hL⟩, hR⟩, hP'⟩, hUp⟩, hC⟩, hZ⟩ := hp
    have hN' : ¬(40 : Int) < (nth ps i).Name.size := by omega
    have hUp' : ¬(250 : Int) < (nth ps i).Ups.length := by omega
    have hC' : ¬(500 : Int) < (nth ps i).Consts.length := by omega
    by_cases hr : (nth ps i).Rest = true
    · simp only [Most, hr, if_true, if_false, Bool.false_eq_true] at hP'
      by_cases h0 : i = 0
      · subst h0
        have hz : (nth ps 0).Params = 0 ∧ (nth ps 0).Ups.length = 0 := by omega
        have hz1 : ¬0 < (nth ps 0).Params := by omega
        have hz2 : ¬(0 : Int) < (nth ps 0).Ups.length := by omega
        refine ⟨_, by (simp (maxSteps := 10000000) -implicitDefEqProofs +contextual (disch := omega) only [ub_impl_CheckShape_1, rr_impl_CheckShape, hU, hP, code, protos, Proto.cells, ups, vals, inss, nmds, ei_within, ↓XD, XU, refs, goneIn, Nat.beq, Nat.ble, List.isEmpty, ↓reduceIte, sevalprocAttr, hn, hr, hN', hL, hR, hP', hUp', hC', hz1, hz2]) <;> rfl, by simp [St.next, trim, bare, refsL, refs]⟩
      · refine ⟨_, by (simp (maxSteps := 10000000) -implicitDefEqProofs +contextual (disch := omega) only [ub_impl_CheckShape_1, rr_impl_CheckShape, hU, hP, code, protos, Proto.cells, ups, vals, inss, nmds, ei_within, ↓XD, XU, refs, goneIn, Nat.beq, Nat.ble, List.isEmpty, ↓reduceIte, sevalprocAttr, hn, hr, hN', hL, hR, hP', hUp', hC', h0]) <;> rfl, by simp [St.next, trim, bare, refsL, refs]⟩
    · simp only [Most, hr, if_true, if_false, Bool.false_eq_true] at hP'
      by_cases h0 : i = 0
      · subst h0
        have hz : (nth ps 0).Params = 0 ∧ (nth ps 0).Ups.length = 0 := by omega
        have hz1 : ¬0 < (nth ps 0).Params := by omega
        have hz2 : ¬(0 : Int) < (nth ps 0).Ups.length := by omega
        refine ⟨_, by (simp (maxSteps := 10000000) -implicitDefEqProofs +contextual (disch := omega) only [ub_impl_CheckShape_1, rr_impl_CheckShape, hU, hP, code, protos, Proto.cells, ups, vals, inss, nmds, ei_within, ↓XD, XU, refs, goneIn, Nat.beq, Nat.ble, List.isEmpty, ↓reduceIte, sevalprocAttr, hn, hr, hN', hL, hR, hP', hUp', hC', hz1, hz2]) <;> rfl, by simp [St.next, trim, bare, refsL, refs]⟩
      · refine ⟨_, by (simp (maxSteps := 10000000) -implicitDefEqProofs +contextual (disch := omega) only [ub_impl_CheckShape_1, rr_impl_CheckShape, hU, hP, code, protos, Proto.cells, ups, vals, inss, nmds, ei_within, ↓XD, XU, refs, goneIn, Nat.beq, Nat.ble, List.isEmpty, ↓reduceIte, sevalprocAttr, hn, hr, hN', hL, hR, hP', hUp', hC', h0]) <;> rfl, by simp [St.next, trim, bare, refsL, refs]⟩
  · intro i hi hn hp
    have hu := (hs i).u
    have hc := (hs i).c
    by_cases hN : (40 : Int) < (nth ps i).Name.size
    · skip
      by_cases hr : (nth ps i).Rest = true
      · refine ⟨_, by (simp (maxSteps := 10000000) -implicitDefEqProofs +contextual (disch := omega) only [ub_impl_CheckShape_1, rr_impl_CheckShape, hU, hP, code, protos, Proto.cells, ups, vals, inss, nmds, ei_within, ↓XD, XU, refs, goneIn, Nat.beq, Nat.ble, List.isEmpty, ↓reduceIte, sevalprocAttr, hn, hr, hN]) <;> rfl, by simp [ResAt, Env.get, Env.put]⟩
      · refine ⟨_, by (simp (maxSteps := 10000000) -implicitDefEqProofs +contextual (disch := omega) only [ub_impl_CheckShape_1, rr_impl_CheckShape, hU, hP, code, protos, Proto.cells, ups, vals, inss, nmds, ei_within, ↓XD, XU, refs, goneIn, Nat.beq, Nat.ble, List.isEmpty, ↓reduceIte, sevalprocAttr, hn, hr, hN]) <;> rfl, by simp [ResAt, Env.get, Env.put]⟩
    by_cases hL : ¬(0 ≤ (nth ps i).Line ∧ (nth ps i).Line ≤ 100000)
    · skip
      by_cases hr : (nth ps i).Rest = true
      · refine ⟨_, by (simp (maxSteps := 10000000) -implicitDefEqProofs +contextual (disch := omega) only [ub_impl_CheckShape_1, rr_impl_CheckShape, hU, hP, code, protos, Proto.cells, ups, vals, inss, nmds, ei_within, ↓XD, XU, refs, goneIn, Nat.beq, Nat.ble, List.isEmpty, ↓reduceIte, sevalprocAttr, hn, hr, hN, hL]) <;> rfl, by simp [ResAt, Env.get, Env.put]⟩
      · refine ⟨_, by (simp (maxSteps := 10000000) -implicitDefEqProofs +contextual (disch := omega) only [ub_impl_CheckShape_1, rr_impl_CheckShape, hU, hP, code, protos, Proto.cells, ups, vals, inss, nmds, ei_within, ↓XD, XU, refs, goneIn, Nat.beq, Nat.ble, List.isEmpty, ↓reduceIte, sevalprocAttr, hn, hr, hN, hL]) <;> rfl, by simp [ResAt, Env.get, Env.put]⟩
    replace hL := Classical.not_not.1 hL
    by_cases hR : ¬(0 ≤ (nth ps i).Regs ∧ (nth ps i).Regs ≤ 250)
    · skip
      by_cases hr : (nth ps i).Rest = true
      · refine ⟨_, by (simp (maxSteps := 10000000) -implicitDefEqProofs +contextual (disch := omega) only [ub_impl_CheckShape_1, rr_impl_CheckShape, hU, hP, code, protos, Proto.cells, ups, vals, inss, nmds, ei_within, ↓XD, XU, refs, goneIn, Nat.beq, Nat.ble, List.isEmpty, ↓reduceIte, sevalprocAttr, hn, hr, hN, hL, hR]) <;> rfl, by simp [ResAt, Env.get, Env.put]⟩
      · refine ⟨_, by (simp (maxSteps := 10000000) -implicitDefEqProofs +contextual (disch := omega) only [ub_impl_CheckShape_1, rr_impl_CheckShape, hU, hP, code, protos, Proto.cells, ups, vals, inss, nmds, ei_within, ↓XD, XU, refs, goneIn, Nat.beq, Nat.ble, List.isEmpty, ↓reduceIte, sevalprocAttr, hn, hr, hN, hL, hR]) <;> rfl, by simp [ResAt, Env.get, Env.put]⟩
    replace hR := Classical.not_not.1 hR
    by_cases hM : ¬(0 ≤ (nth ps i).Params ∧ (nth ps i).Params ≤ Most (nth ps i))
    · skip
      by_cases hr : (nth ps i).Rest = true
      · simp only [Most, hr, if_true] at hM
        refine ⟨_, by (simp (maxSteps := 10000000) -implicitDefEqProofs +contextual (disch := omega) only [ub_impl_CheckShape_1, rr_impl_CheckShape, hU, hP, code, protos, Proto.cells, ups, vals, inss, nmds, ei_within, ↓XD, XU, refs, goneIn, Nat.beq, Nat.ble, List.isEmpty, ↓reduceIte, sevalprocAttr, hn, hr, hN, hL, hR, hM]) <;> rfl, by simp [ResAt, Env.get, Env.put]⟩
      · simp only [Most, hr, if_false, Bool.false_eq_true] at hM
        refine ⟨_, by (simp (maxSteps := 10000000) -implicitDefEqProofs +contextual (disch := omega) only [ub_impl_CheckShape_1, rr_impl_CheckShape, hU, hP, code, protos, Proto.cells, ups, vals, inss, nmds, ei_within, ↓XD, XU, refs, goneIn, Nat.beq, Nat.ble, List.isEmpty, ↓reduceIte, sevalprocAttr, hn, hr, hN, hL, hR, hM]) <;> rfl, by simp [ResAt, Env.get, Env.put]⟩
    replace hM := Classical.not_not.1 hM
    by_cases hUp : (250 : Int) < (nth ps i).Ups.length
    · skip
      by_cases hr : (nth ps i).Rest = true
      · simp only [Most, hr, if_true] at hM
        refine ⟨_, by (simp (maxSteps := 10000000) -implicitDefEqProofs +contextual (disch := omega) only [ub_impl_CheckShape_1, rr_impl_CheckShape, hU, hP, code, protos, Proto.cells, ups, vals, inss, nmds, ei_within, ↓XD, XU, refs, goneIn, Nat.beq, Nat.ble, List.isEmpty, ↓reduceIte, sevalprocAttr, hn, hr, hN, hL, hR, hM, hUp]) <;> rfl, by simp [ResAt, Env.get, Env.put]⟩
      · simp only [Most, hr, if_false, Bool.false_eq_true] at hM
        refine ⟨_, by (simp (maxSteps := 10000000) -implicitDefEqProofs +contextual (disch := omega) only [ub_impl_CheckShape_1, rr_impl_CheckShape, hU, hP, code, protos, Proto.cells, ups, vals, inss, nmds, ei_within, ↓XD, XU, refs, goneIn, Nat.beq, Nat.ble, List.isEmpty, ↓reduceIte, sevalprocAttr, hn, hr, hN, hL, hR, hM, hUp]) <;> rfl, by simp [ResAt, Env.get, Env.put]⟩
    by_cases hC : (500 : Int) < (nth ps i).Consts.length
    · skip
      by_cases hr : (nth ps i).Rest = true
      · simp only [Most, hr, if_true] at hM
        refine ⟨_, by (simp (maxSteps := 10000000) -implicitDefEqProofs +contextual (disch := omega) only [ub_impl_CheckShape_1, rr_impl_CheckShape, hU, hP, code, protos, Proto.cells, ups, vals, inss, nmds, ei_within, ↓XD, XU, refs, goneIn, Nat.beq, Nat.ble, List.isEmpty, ↓reduceIte, sevalprocAttr, hn, hr, hN, hL, hR, hM, hUp, hC]) <;> rfl, by simp [ResAt, Env.get, Env.put]⟩
      · simp only [Most, hr, if_false, Bool.false_eq_true] at hM
        refine ⟨_, by (simp (maxSteps := 10000000) -implicitDefEqProofs +contextual (disch := omega) only [ub_impl_CheckShape_1, rr_impl_CheckShape, hU, hP, code, protos, Proto.cells, ups, vals, inss, nmds, ei_within, ↓XD, XU, refs, goneIn, Nat.beq, Nat.ble, List.isEmpty, ↓reduceIte, sevalprocAttr, hn, hr, hN, hL, hR, hM, hUp, hC]) <;> rfl, by simp [ResAt, Env.get, Env.put]⟩
    have h0 : i = 0 := by
      by_cases h0 : i = 0
      · exact h0
      · exact absurd ⟨⟨⟨⟨⟨⟨by omega, hL⟩, hR⟩, hM⟩, by omega⟩, by omega⟩, .inl (by omega)⟩ hp
    subst h0
    by_cases hz1 : 0 < (nth ps 0).Params
    · skip
      by_cases hr : (nth ps 0).Rest = true
      · simp only [Most, hr, if_true] at hM
        refine ⟨_, by (simp (maxSteps := 10000000) -implicitDefEqProofs +contextual (disch := omega) only [ub_impl_CheckShape_1, rr_impl_CheckShape, hU, hP, code, protos, Proto.cells, ups, vals, inss, nmds, ei_within, ↓XD, XU, refs, goneIn, Nat.beq, Nat.ble, List.isEmpty, ↓reduceIte, sevalprocAttr, hn, hr, hN, hL, hR, hM, hUp, hC, hz1]) <;> rfl, by simp [ResAt, Env.get, Env.put]⟩
      · simp only [Most, hr, if_false, Bool.false_eq_true] at hM
        refine ⟨_, by (simp (maxSteps := 10000000) -implicitDefEqProofs +contextual (disch := omega) only [ub_impl_CheckShape_1, rr_impl_CheckShape, hU, hP, code, protos, Proto.cells, ups, vals, inss, nmds, ei_within, ↓XD, XU, refs, goneIn, Nat.beq, Nat.ble, List.isEmpty, ↓reduceIte, sevalprocAttr, hn, hr, hN, hL, hR, hM, hUp, hC, hz1]) <;> rfl, by simp [ResAt, Env.get, Env.put]⟩
    have hz2 : (0 : Int) < (nth ps 0).Ups.length := by
      by_cases h0 : (0 : Int) < (nth ps 0).Ups.length
      · exact h0
      · exact absurd ⟨⟨⟨⟨⟨⟨by omega, hL⟩, hR⟩, hM⟩, by omega⟩, by omega⟩, .inr ⟨by omega, by omega⟩⟩ hp
    by_cases hr : (nth ps 0).Rest = true
    · simp only [Most, hr, if_true] at hM
      refine ⟨_, by (simp (maxSteps := 10000000) -implicitDefEqProofs +contextual (disch := omega) only [ub_impl_CheckShape_1, rr_impl_CheckShape, hU, hP, code, protos, Proto.cells, ups, vals, inss, nmds, ei_within, ↓XD, XU, refs, goneIn, Nat.beq, Nat.ble, List.isEmpty, ↓reduceIte, sevalprocAttr, hn, hr, hN, hL, hR, hM, hUp, hC, hz1, hz2]) <;> rfl, by simp [ResAt, Env.get, Env.put]⟩
    · simp only [Most, hr, if_false, Bool.false_eq_true] at hM
      refine ⟨_, by (simp (maxSteps := 10000000) -implicitDefEqProofs +contextual (disch := omega) only [ub_impl_CheckShape_1, rr_impl_CheckShape, hU, hP, code, protos, Proto.cells, ups, vals, inss, nmds, ei_within, ↓XD, XU, refs, goneIn, Nat.beq, Nat.ble, List.isEmpty, ↓reduceIte, sevalprocAttr, hn, hr, hN, hL, hR, hM, hUp, hC, hz1, hz2]) <;> rfl, by simp [ResAt, Env.get, Env.put]⟩
  · rintro i hi rfl
    refine ⟨by simp (maxSteps := 10000000) -implicitDefEqProofs +contextual (disch := omega) only [ub_impl_CheckShape_1, rr_impl_CheckShape, ↓XD, XU, refs, goneIn, Nat.beq, Nat.ble, List.isEmpty, ↓reduceIte, sevalprocAttr, hU, code, protos, Int.lt_irrefl], by simp⟩
theorem li_3 (ps : List Proto) (t fi : Int) (f : Proto) (hb : ps.length ≤ 1048576) (hs : SizeP f) : match seek (fun (j : Int) => ¬VConst (nth f.Consts j)) 0 f.Consts.length with | some j => ∃ st, EV A (.loop (B_impl_CheckShape 3)) (⟨[(0, code ps), (1, .ptr 0 0 0 1), (2, .ptr 1 0 0 1), (3, .int .i64 t), (31, protos ps), (32, .int .i64 ps.length), (33, .int .i64 ps.length), (59, protos ps), (60, .int .i64 ps.length), (61, .int .i64 ps.length), (126, protos ps), (127, .int .i64 ps.length), (128, .int .i64 fi), (10, .ptr 2 0 0 1), (9, .int .i64 fi), (134, vals f.Consts), (135, .int .i64 f.Consts.length), (136, .int .i64 (0))], [], hP ps f, []⟩ : St) = some (.ret, st) ∧ ResAt 2 1 3 (flt3 3 fi j) st | none => EV A (.loop (B_impl_CheckShape 3)) (⟨[(0, code ps), (1, .ptr 0 0 0 1), (2, .ptr 1 0 0 1), (3, .int .i64 t), (31, protos ps), (32, .int .i64 ps.length), (33, .int .i64 ps.length), (59, protos ps), (60, .int .i64 ps.length), (61, .int .i64 ps.length), (126, protos ps), (127, .int .i64 ps.length), (128, .int .i64 fi), (10, .ptr 2 0 0 1), (9, .int .i64 fi), (134, vals f.Consts), (135, .int .i64 f.Consts.length), (136, .int .i64 (0))], [], hP ps f, []⟩ : St) = some (AExit.exit 6, (⟨[(0, code ps), (1, .ptr 0 0 0 1), (2, .ptr 1 0 0 1), (3, .int .i64 t), (31, protos ps), (32, .int .i64 ps.length), (33, .int .i64 ps.length), (59, protos ps), (60, .int .i64 ps.length), (61, .int .i64 ps.length), (126, protos ps), (127, .int .i64 ps.length), (128, .int .i64 fi), (10, .ptr 2 0 0 1), (9, .int .i64 fi), (134, vals f.Consts), (135, .int .i64 f.Consts.length), (136, .int .i64 (f.Consts.length))], [], hP ps f, []⟩ : St)) := by
  refine loop_seek (fun i => (⟨[(0, code ps), (1, .ptr 0 0 0 1), (2, .ptr 1 0 0 1), (3, .int .i64 t), (31, protos ps), (32, .int .i64 ps.length), (33, .int .i64 ps.length), (59, protos ps), (60, .int .i64 ps.length), (61, .int .i64 ps.length), (126, protos ps), (127, .int .i64 ps.length), (128, .int .i64 fi), (10, .ptr 2 0 0 1), (9, .int .i64 fi), (134, vals f.Consts), (135, .int .i64 f.Consts.length), (136, .int .i64 i)], [], hP ps f, []⟩ : St)) (fun (j : Int) => ¬VConst (nth f.Consts j)) (fun (j : Int) (st : St) => ResAt 2 1 3 (flt3 3 fi j) st) (AExit.exit 6, (⟨[(0, code ps), (1, .ptr 0 0 0 1), (2, .ptr 1 0 0 1), (3, .int .i64 t), (31, protos ps), (32, .int .i64 ps.length), (33, .int .i64 ps.length), (59, protos ps), (60, .int .i64 ps.length), (61, .int .i64 ps.length), (126, protos ps), (127, .int .i64 ps.length), (128, .int .i64 fi), (10, .ptr 2 0 0 1), (9, .int .i64 fi), (134, vals f.Consts), (135, .int .i64 f.Consts.length), (136, .int .i64 (f.Consts.length))], [], hP ps f, []⟩ : St)) (0) (f.Consts.length) ?_ ?_ ?_ (0) (by omega) (by omega)
  · intro i hi hn hp
    have hc := hs.c; have hz := ei_valueOk (nth f.Consts i); simp only [Val.cells] at hz
    simp only [Classical.not_not] at hp
    obtain ⟨hv, h5, h6, h7, h3', h3n⟩ := hp
    by_cases h3 : (nth f.Consts i).Kind = 3
    · have ho := h3' h3
      simp only [hv, h3] at hz
      refine ⟨_, by (simp (maxSteps := 10000000) -implicitDefEqProofs +contextual (disch := omega) only [ub_impl_CheckShape_3, rr_impl_CheckShape, hU, hP, code, protos, Proto.cells, ups, vals, inss, nmds, Val.cells, ei_within, ↓XD, XU, refs, goneIn, Nat.beq, Nat.ble, List.isEmpty, ↓reduceIte, sevalprocAttr, hn, hz, hv, h3, ho]) <;> rfl, by simp [St.next, trim, bare, refsL, refs]⟩
    · have ho := h3n h3
      have hS := ei_Signbit 0
      simp only [hv, ho] at hz
      refine ⟨_, by (simp (maxSteps := 10000000) -implicitDefEqProofs +contextual (disch := omega) only [ub_impl_CheckShape_3, rr_impl_CheckShape, hU, hP, code, protos, Proto.cells, ups, vals, inss, nmds, Val.cells, ei_within, ↓XD, XU, refs, goneIn, Nat.beq, Nat.ble, List.isEmpty, ↓reduceIte, sevalprocAttr, hn, hz, hv, h3, h5, h6, h7, ho, hS, sb0]) <;> rfl, by simp [St.next, trim, bare, refsL, refs]⟩
  · intro i hi hn hp
    have hc := hs.c; have hz := ei_valueOk (nth f.Consts i); simp only [Val.cells] at hz
    have hS := ei_Signbit 9223372036854775808
    by_cases hv : ¬VOk (nth f.Consts i)
    · simp only [hv] at hz
      refine ⟨_, by (simp (maxSteps := 10000000) -implicitDefEqProofs +contextual (disch := omega) only [ub_impl_CheckShape_3, rr_impl_CheckShape, hU, hP, code, protos, Proto.cells, ups, vals, inss, nmds, Val.cells, ei_within, ↓XD, XU, refs, goneIn, Nat.beq, Nat.ble, List.isEmpty, ↓reduceIte, sevalprocAttr, hn, hz, hv]) <;> rfl, by simp [ResAt, Env.get, Env.put]⟩
    replace hv := Classical.not_not.1 hv
    by_cases h5 : (nth f.Consts i).Kind = 5
    · simp only [hv, h5] at hz
      refine ⟨_, by (simp (maxSteps := 10000000) -implicitDefEqProofs +contextual (disch := omega) only [ub_impl_CheckShape_3, rr_impl_CheckShape, hU, hP, code, protos, Proto.cells, ups, vals, inss, nmds, Val.cells, ei_within, ↓XD, XU, refs, goneIn, Nat.beq, Nat.ble, List.isEmpty, ↓reduceIte, sevalprocAttr, hn, hz, hv, h5]) <;> rfl, by simp [ResAt, Env.get, Env.put]⟩
    by_cases h6 : (nth f.Consts i).Kind = 6
    · simp only [hv, h6] at hz
      refine ⟨_, by (simp (maxSteps := 10000000) -implicitDefEqProofs +contextual (disch := omega) only [ub_impl_CheckShape_3, rr_impl_CheckShape, hU, hP, code, protos, Proto.cells, ups, vals, inss, nmds, Val.cells, ei_within, ↓XD, XU, refs, goneIn, Nat.beq, Nat.ble, List.isEmpty, ↓reduceIte, sevalprocAttr, hn, hz, hv, h6]) <;> rfl, by simp [ResAt, Env.get, Env.put]⟩
    by_cases h7 : (nth f.Consts i).Kind = 7
    · simp only [hv, h7] at hz
      refine ⟨_, by (simp (maxSteps := 10000000) -implicitDefEqProofs +contextual (disch := omega) only [ub_impl_CheckShape_3, rr_impl_CheckShape, hU, hP, code, protos, Proto.cells, ups, vals, inss, nmds, Val.cells, ei_within, ↓XD, XU, refs, goneIn, Nat.beq, Nat.ble, List.isEmpty, ↓reduceIte, sevalprocAttr, hn, hz, hv, h7]) <;> rfl, by simp [ResAt, Env.get, Env.put]⟩
    by_cases h3 : (nth f.Consts i).Kind = 3
    · have ho : ¬FloatKind.f64.format.order (nth f.Consts i).Flt (nth f.Consts i).Flt = some .eq := fun ho => hp ⟨hv, h5, h6, h7, fun _ => ho, fun h => absurd h3 h⟩
      simp only [hv, h3] at hz
      refine ⟨_, by (simp (maxSteps := 10000000) -implicitDefEqProofs +contextual (disch := omega) only [ub_impl_CheckShape_3, rr_impl_CheckShape, hU, hP, code, protos, Proto.cells, ups, vals, inss, nmds, Val.cells, ei_within, ↓XD, XU, refs, goneIn, Nat.beq, Nat.ble, List.isEmpty, ↓reduceIte, sevalprocAttr, hn, hz, hv, h3, ho]) <;> rfl, by simp [ResAt, Env.get, Env.put]⟩
    have ho : (nth f.Consts i).Flt = 9223372036854775808 := by
      rcases (order_zero (hs.f i)).1 (vok_flt hv h3) with h | h
      · exact absurd ⟨hv, h5, h6, h7, fun h => absurd h h3, fun _ => h⟩ hp
      · exact h
    simp only [hv, ho] at hz
    refine ⟨_, by (simp (maxSteps := 10000000) -implicitDefEqProofs +contextual (disch := omega) only [ub_impl_CheckShape_3, rr_impl_CheckShape, hU, hP, code, protos, Proto.cells, ups, vals, inss, nmds, Val.cells, ei_within, ↓XD, XU, refs, goneIn, Nat.beq, Nat.ble, List.isEmpty, ↓reduceIte, sevalprocAttr, hn, hz, hv, h3, h5, h6, h7, ho, hS, sb1]) <;> rfl, by simp [ResAt, Env.get, Env.put]⟩
  · rintro i hi rfl
    refine ⟨by simp (maxSteps := 10000000) -implicitDefEqProofs +contextual (disch := omega) only [ub_impl_CheckShape_3, rr_impl_CheckShape, ↓XD, XU, refs, goneIn, Nat.beq, Nat.ble, List.isEmpty, ↓reduceIte, sevalprocAttr, hP, code, protos, Proto.cells, vals, Val.cells, Int.lt_irrefl], by simp⟩
theorem li_2 (ps : List Proto) (t : Int) (hb : ps.length ≤ 1048576) (hs : SizedP ps) : match seek (fun (j : Int) => badCon ps j ≠ none) 0 ps.length with | some j => ∃ st, EV A (.loop (B_impl_CheckShape 2)) (⟨[(0, code ps), (1, .ptr 0 0 0 1), (2, .ptr 1 0 0 1), (3, .int .i64 t), (31, protos ps), (32, .int .i64 ps.length), (33, .int .i64 ps.length), (59, protos ps), (60, .int .i64 ps.length), (61, .int .i64 ps.length), (126, protos ps), (127, .int .i64 ps.length), (128, .int .i64 (0))], [], hU ps, []⟩ : St) = some (.ret, st) ∧ ResAt 2 1 3 (flt3 3 j ((badCon ps j).getD 0)) st | none => EV A (.loop (B_impl_CheckShape 2)) (⟨[(0, code ps), (1, .ptr 0 0 0 1), (2, .ptr 1 0 0 1), (3, .int .i64 t), (31, protos ps), (32, .int .i64 ps.length), (33, .int .i64 ps.length), (59, protos ps), (60, .int .i64 ps.length), (61, .int .i64 ps.length), (126, protos ps), (127, .int .i64 ps.length), (128, .int .i64 (0))], [], hU ps, []⟩ : St) = some (AExit.exit 4, (⟨[(0, code ps), (1, .ptr 0 0 0 1), (2, .ptr 1 0 0 1), (3, .int .i64 t), (31, protos ps), (32, .int .i64 ps.length), (33, .int .i64 ps.length), (59, protos ps), (60, .int .i64 ps.length), (61, .int .i64 ps.length), (126, protos ps), (127, .int .i64 ps.length), (128, .int .i64 (ps.length))], [], hU ps, []⟩ : St)) := by
  refine loop_seek (fun i => (⟨[(0, code ps), (1, .ptr 0 0 0 1), (2, .ptr 1 0 0 1), (3, .int .i64 t), (31, protos ps), (32, .int .i64 ps.length), (33, .int .i64 ps.length), (59, protos ps), (60, .int .i64 ps.length), (61, .int .i64 ps.length), (126, protos ps), (127, .int .i64 ps.length), (128, .int .i64 i)], [], hU ps, []⟩ : St)) (fun (j : Int) => badCon ps j ≠ none) (fun (j : Int) (st : St) => ResAt 2 1 3 (flt3 3 j ((badCon ps j).getD 0)) st) (AExit.exit 4, (⟨[(0, code ps), (1, .ptr 0 0 0 1), (2, .ptr 1 0 0 1), (3, .int .i64 t), (31, protos ps), (32, .int .i64 ps.length), (33, .int .i64 ps.length), (59, protos ps), (60, .int .i64 ps.length), (61, .int .i64 ps.length), (126, protos ps), (127, .int .i64 ps.length), (128, .int .i64 (ps.length))], [], hU ps, []⟩ : St)) (0) (ps.length) ?_ ?_ ?_ (0) (by omega) (by omega)
  · intro i hi hn hp
    try simp only [Classical.not_not] at hp
    have hl := li_3 ps t i (nth ps i) hb (hs i)
    have hp' : badCon ps i = none := (by simpa using hp); unfold badCon at hp'; rw [hp'] at hl
    refine ⟨_, by simp (maxSteps := 10000000) -implicitDefEqProofs +contextual (disch := omega) only [ub_impl_CheckShape_2, rr_impl_CheckShape, ↓XD, XU, refs, goneIn, Nat.beq, Nat.ble, List.isEmpty, ↓reduceIte, sevalprocAttr, hU, hP, code, protos, Proto.cells, vals, ups, inss, nmds, hl, hn, hp]; rfl, by first | (simp [St.next, trim_all]; done) | (simp [St.next, trim_all]; omega) | (simp [St.next, trim, bare, refsL, refs]; done)⟩
  · intro i hi hn hp
    have hl := li_3 ps t i (nth ps i) hb (hs i)
    obtain ⟨k, hk⟩ := Option.ne_none_iff_exists'.1 hp; unfold badCon at hk; rw [hk] at hl; obtain ⟨st, hl, hg⟩ := hl
    refine ⟨_, by simp (maxSteps := 10000000) -implicitDefEqProofs +contextual (disch := omega) only [ub_impl_CheckShape_2, rr_impl_CheckShape, ↓XD, XU, refs, goneIn, Nat.beq, Nat.ble, List.isEmpty, ↓reduceIte, sevalprocAttr, hU, hP, code, protos, Proto.cells, vals, ups, inss, nmds, hl, hn, hp]; rfl, by unfold badCon; rw [hk]; exact hg⟩
  · rintro i hi rfl
    refine ⟨by simp (maxSteps := 10000000) -implicitDefEqProofs +contextual (disch := omega) only [ub_impl_CheckShape_2, rr_impl_CheckShape, ↓XD, XU, refs, goneIn, Nat.beq, Nat.ble, List.isEmpty, ↓reduceIte, sevalprocAttr, hU, hP, code, protos, Proto.cells, vals, ups, inss, nmds, Int.lt_irrefl], by simp⟩
def NmdI (p : Proto) (n : Nmd) (i : Int) : Prop := ((1 ≤ (n.Name.size : Int) ∧ (n.Name.size : Int) ≤ 40) ∧ (0 ≤ n.Reg ∧ n.Reg ≤ p.Regs - 1) ∧ 0 ≤ n.From ∧ n.From ≤ n.To ∧ n.To ≤ p.Ins.length) ∧ ¬i = 500
theorem li_5 (ps : List Proto) (t fi : Int) (f : Proto) (hb : ps.length ≤ 1048576) (hs : POk f) : match seek (fun (j : Int) => ¬NmdI f (nth f.Named j) j) 0 f.Named.length with | some j => ∃ st, EV A (.loop (B_impl_CheckShape 5)) (⟨[(0, code ps), (1, .ptr 0 0 0 1), (2, .ptr 1 0 0 1), (3, .int .i64 t), (31, protos ps), (32, .int .i64 ps.length), (33, .int .i64 ps.length), (59, protos ps), (60, .int .i64 ps.length), (61, .int .i64 ps.length), (126, protos ps), (127, .int .i64 ps.length), (128, .int .i64 ps.length), (187, protos ps), (188, .int .i64 ps.length), (189, .int .i64 fi), (14, .ptr 2 0 0 1), (13, .int .i64 fi), (195, nmds f.Named), (196, .int .i64 f.Named.length), (197, .int .i64 (0))], [], hP ps f, []⟩ : St) = some (.ret, st) ∧ ResAt 2 1 3 (flt3 4 fi j) st | none => EV A (.loop (B_impl_CheckShape 5)) (⟨[(0, code ps), (1, .ptr 0 0 0 1), (2, .ptr 1 0 0 1), (3, .int .i64 t), (31, protos ps), (32, .int .i64 ps.length), (33, .int .i64 ps.length), (59, protos ps), (60, .int .i64 ps.length), (61, .int .i64 ps.length), (126, protos ps), (127, .int .i64 ps.length), (128, .int .i64 ps.length), (187, protos ps), (188, .int .i64 ps.length), (189, .int .i64 fi), (14, .ptr 2 0 0 1), (13, .int .i64 fi), (195, nmds f.Named), (196, .int .i64 f.Named.length), (197, .int .i64 (0))], [], hP ps f, []⟩ : St) = some (AExit.exit 10, (⟨[(0, code ps), (1, .ptr 0 0 0 1), (2, .ptr 1 0 0 1), (3, .int .i64 t), (31, protos ps), (32, .int .i64 ps.length), (33, .int .i64 ps.length), (59, protos ps), (60, .int .i64 ps.length), (61, .int .i64 ps.length), (126, protos ps), (127, .int .i64 ps.length), (128, .int .i64 ps.length), (187, protos ps), (188, .int .i64 ps.length), (189, .int .i64 fi), (14, .ptr 2 0 0 1), (13, .int .i64 fi), (195, nmds f.Named), (196, .int .i64 f.Named.length), (197, .int .i64 (f.Named.length))], [], hP ps f, []⟩ : St)) := by
  refine loop_seek (fun i => (⟨[(0, code ps), (1, .ptr 0 0 0 1), (2, .ptr 1 0 0 1), (3, .int .i64 t), (31, protos ps), (32, .int .i64 ps.length), (33, .int .i64 ps.length), (59, protos ps), (60, .int .i64 ps.length), (61, .int .i64 ps.length), (126, protos ps), (127, .int .i64 ps.length), (128, .int .i64 ps.length), (187, protos ps), (188, .int .i64 ps.length), (189, .int .i64 fi), (14, .ptr 2 0 0 1), (13, .int .i64 fi), (195, nmds f.Named), (196, .int .i64 f.Named.length), (197, .int .i64 i)], [], hP ps f, []⟩ : St)) (fun (j : Int) => ¬NmdI f (nth f.Named j) j) (fun (j : Int) (st : St) => ResAt 2 1 3 (flt3 4 fi j) st) (AExit.exit 10, (⟨[(0, code ps), (1, .ptr 0 0 0 1), (2, .ptr 1 0 0 1), (3, .int .i64 t), (31, protos ps), (32, .int .i64 ps.length), (33, .int .i64 ps.length), (59, protos ps), (60, .int .i64 ps.length), (61, .int .i64 ps.length), (126, protos ps), (127, .int .i64 ps.length), (128, .int .i64 ps.length), (187, protos ps), (188, .int .i64 ps.length), (189, .int .i64 fi), (14, .ptr 2 0 0 1), (13, .int .i64 fi), (195, nmds f.Named), (196, .int .i64 f.Named.length), (197, .int .i64 (f.Named.length))], [], hP ps f, []⟩ : St)) (0) (f.Named.length) ?_ ?_ ?_ (0) (by omega) (by omega)
  · intro i hi hn hp
    have q1 := hs.r0; have q2 := hs.r1; have q3 := hs.n; have q4 := hs.i
    simp only [Classical.not_not] at hp
    obtain ⟨⟨⟨a1, a2⟩, a3, a4, a5, a6⟩, a7⟩ := hp
    have c1 : ¬(((nth f.Named i).Name.size : Int) < 1) := by omega
    have c2 : ¬((40 : Int) < (nth f.Named i).Name.size) := by omega
    have c3 : (0 ≤ (nth f.Named i).Reg ∧ (nth f.Named i).Reg ≤ f.Regs - 1) := by omega
    have c4 : ¬((nth f.Named i).From < 0) := by omega
    have c5 : ¬((nth f.Named i).To < (nth f.Named i).From) := by omega
    have c6 : ¬((f.Ins.length : Int) < (nth f.Named i).To) := by omega
    have c7 : ¬(i = 500) := by omega
    refine ⟨_, by (simp (maxSteps := 10000000) -implicitDefEqProofs +contextual (disch := omega) only [ub_impl_CheckShape_5, rr_impl_CheckShape, hU, hP, code, protos, Proto.cells, ups, vals, inss, nmds, Nmd.cells, ei_within, ↓XD, XU, refs, goneIn, Nat.beq, Nat.ble, List.isEmpty, ↓reduceIte, sevalprocAttr, hn, c1, c2, c3, c4, c5, c6, c7]) <;> rfl, by simp [St.next, trim, bare, refsL, refs]⟩
  · intro i hi hn hp
    have q1 := hs.r0; have q2 := hs.r1; have q3 := hs.n; have q4 := hs.i
    by_cases c1 : (((nth f.Named i).Name.size : Int) < 1)
    · skip
      refine ⟨_, by (simp (maxSteps := 10000000) -implicitDefEqProofs +contextual (disch := omega) only [ub_impl_CheckShape_5, rr_impl_CheckShape, hU, hP, code, protos, Proto.cells, ups, vals, inss, nmds, Nmd.cells, ei_within, ↓XD, XU, refs, goneIn, Nat.beq, Nat.ble, List.isEmpty, ↓reduceIte, sevalprocAttr, hn, c1]) <;> rfl, by simp [ResAt, Env.get, Env.put]⟩
    by_cases c2 : ((40 : Int) < (nth f.Named i).Name.size)
    · skip
      refine ⟨_, by (simp (maxSteps := 10000000) -implicitDefEqProofs +contextual (disch := omega) only [ub_impl_CheckShape_5, rr_impl_CheckShape, hU, hP, code, protos, Proto.cells, ups, vals, inss, nmds, Nmd.cells, ei_within, ↓XD, XU, refs, goneIn, Nat.beq, Nat.ble, List.isEmpty, ↓reduceIte, sevalprocAttr, hn, c1, c2]) <;> rfl, by simp [ResAt, Env.get, Env.put]⟩
    by_cases c3 : ¬(0 ≤ (nth f.Named i).Reg ∧ (nth f.Named i).Reg ≤ f.Regs - 1)
    · skip
      refine ⟨_, by (simp (maxSteps := 10000000) -implicitDefEqProofs +contextual (disch := omega) only [ub_impl_CheckShape_5, rr_impl_CheckShape, hU, hP, code, protos, Proto.cells, ups, vals, inss, nmds, Nmd.cells, ei_within, ↓XD, XU, refs, goneIn, Nat.beq, Nat.ble, List.isEmpty, ↓reduceIte, sevalprocAttr, hn, c1, c2, c3]) <;> rfl, by simp [ResAt, Env.get, Env.put]⟩
    by_cases c4 : ((nth f.Named i).From < 0)
    · skip
      refine ⟨_, by (simp (maxSteps := 10000000) -implicitDefEqProofs +contextual (disch := omega) only [ub_impl_CheckShape_5, rr_impl_CheckShape, hU, hP, code, protos, Proto.cells, ups, vals, inss, nmds, Nmd.cells, ei_within, ↓XD, XU, refs, goneIn, Nat.beq, Nat.ble, List.isEmpty, ↓reduceIte, sevalprocAttr, hn, c1, c2, c3, c4]) <;> rfl, by simp [ResAt, Env.get, Env.put]⟩
    by_cases c5 : ((nth f.Named i).To < (nth f.Named i).From)
    · skip
      refine ⟨_, by (simp (maxSteps := 10000000) -implicitDefEqProofs +contextual (disch := omega) only [ub_impl_CheckShape_5, rr_impl_CheckShape, hU, hP, code, protos, Proto.cells, ups, vals, inss, nmds, Nmd.cells, ei_within, ↓XD, XU, refs, goneIn, Nat.beq, Nat.ble, List.isEmpty, ↓reduceIte, sevalprocAttr, hn, c1, c2, c3, c4, c5]) <;> rfl, by simp [ResAt, Env.get, Env.put]⟩
    by_cases c6 : ((f.Ins.length : Int) < (nth f.Named i).To)
    · skip
      refine ⟨_, by (simp (maxSteps := 10000000) -implicitDefEqProofs +contextual (disch := omega) only [ub_impl_CheckShape_5, rr_impl_CheckShape, hU, hP, code, protos, Proto.cells, ups, vals, inss, nmds, Nmd.cells, ei_within, ↓XD, XU, refs, goneIn, Nat.beq, Nat.ble, List.isEmpty, ↓reduceIte, sevalprocAttr, hn, c1, c2, c3, c4, c5, c6]) <;> rfl, by simp [ResAt, Env.get, Env.put]⟩
    have c7 : i = 500 := by
      by_cases c7 : i = 500
      · exact c7
      · exact absurd ⟨⟨⟨by omega, by omega⟩, Classical.not_not.1 c3, by omega, by omega, by omega⟩, c7⟩ hp
    subst c7
    refine ⟨_, by (simp (maxSteps := 10000000) -implicitDefEqProofs +contextual (disch := omega) only [ub_impl_CheckShape_5, rr_impl_CheckShape, hU, hP, code, protos, Proto.cells, ups, vals, inss, nmds, Nmd.cells, ei_within, ↓XD, XU, refs, goneIn, Nat.beq, Nat.ble, List.isEmpty, ↓reduceIte, sevalprocAttr, hn, c1, c2, c3, c4, c5, c6]) <;> rfl, by simp [ResAt, Env.get, Env.put]⟩
  · rintro i hi rfl
    refine ⟨by simp (maxSteps := 10000000) -implicitDefEqProofs +contextual (disch := omega) only [ub_impl_CheckShape_5, rr_impl_CheckShape, ↓XD, XU, refs, goneIn, Nat.beq, Nat.ble, List.isEmpty, ↓reduceIte, sevalprocAttr, hP, code, protos, Proto.cells, nmds, Nmd.cells, Int.lt_irrefl], by simp⟩
theorem seek_upto {p q : Int → Prop} {n m : Int} (h1 : ∀ j, 0 ≤ j → j < n → j < m → (p j ↔ q j)) (m0 : 0 ≤ m) (hp : m < n → p m) (hq : m < n → q m) : seek p 0 n = seek q 0 n := by
  have go : ∀ {p q : Int → Prop}, (∀ j, 0 ≤ j → j < n → j < m → (p j ↔ q j)) → (m < n → p m) → (m < n → q m) → ∀ k, seek p 0 n = some k → seek q 0 n = some k := by
    intro p q h1 hp hq k hk
    obtain ⟨k0, k1, k2, k3⟩ := seek_some.1 hk
    have hkm : k ≤ m := by
      by_cases h : k ≤ m
      · exact h
      · exact absurd (hp (by omega)) (k3 m m0 (by omega))
    refine seek_some.2 ⟨k0, k1, ?_, fun j j0 j1 => ?_⟩
    · by_cases h : k < m
      · exact (h1 k k0 k1 h).1 k2
      · have : k = m := by omega
        subst this; exact hq k1
    · have := k3 j j0 j1
      exact fun hj => this ((h1 j j0 (by omega) (by omega)).2 hj)
  cases h : seek p 0 n with
  | some k => exact (go h1 hp hq k h).symm
  | none =>
    cases h2 : seek q 0 n with
    | none => rfl
    | some k =>
      have := go (fun j a b c => (h1 j a b c).symm) hq hp k h2
      rw [h] at this; cases this
theorem badNmd_is (ps : List Proto) (p : Int) : badNmd ps p = seek (fun k => ¬NmdI (nth ps p) (nth (nth ps p).Named k) k) 0 (nth ps p).Named.length := by
  refine seek_upto (m := 500) (fun j j0 j1 jm => ?_) (by omega) (fun h => ?_) (fun h => ?_)
  · simp only [NmdP, NmdI]
    refine not_congr ⟨fun h => ⟨h.2, by omega⟩, fun h => ⟨by omega, h.1⟩⟩
  · simp only [NmdP]; intro h; omega
  · simp only [NmdI]; intro h; exact h.2 trivial
theorem li_4 (ps : List Proto) (t : Int) (hb : ps.length ≤ 1048576) (hs : ∀ p : Int, 0 ≤ p → p < ps.length → POk (nth ps p)) : match seek (fun (j : Int) => badNmd ps j ≠ none) 0 ps.length with | some j => ∃ st, EV A (.loop (B_impl_CheckShape 4)) (⟨[(0, code ps), (1, .ptr 0 0 0 1), (2, .ptr 1 0 0 1), (3, .int .i64 t), (31, protos ps), (32, .int .i64 ps.length), (33, .int .i64 ps.length), (59, protos ps), (60, .int .i64 ps.length), (61, .int .i64 ps.length), (126, protos ps), (127, .int .i64 ps.length), (128, .int .i64 ps.length), (187, protos ps), (188, .int .i64 ps.length), (189, .int .i64 (0))], [], hU ps, []⟩ : St) = some (.ret, st) ∧ ResAt 2 1 3 (flt3 4 j ((badNmd ps j).getD 0)) st | none => EV A (.loop (B_impl_CheckShape 4)) (⟨[(0, code ps), (1, .ptr 0 0 0 1), (2, .ptr 1 0 0 1), (3, .int .i64 t), (31, protos ps), (32, .int .i64 ps.length), (33, .int .i64 ps.length), (59, protos ps), (60, .int .i64 ps.length), (61, .int .i64 ps.length), (126, protos ps), (127, .int .i64 ps.length), (128, .int .i64 ps.length), (187, protos ps), (188, .int .i64 ps.length), (189, .int .i64 (0))], [], hU ps, []⟩ : St) = some (AExit.exit 8, (⟨[(0, code ps), (1, .ptr 0 0 0 1), (2, .ptr 1 0 0 1), (3, .int .i64 t), (31, protos ps), (32, .int .i64 ps.length), (33, .int .i64 ps.length), (59, protos ps), (60, .int .i64 ps.length), (61, .int .i64 ps.length), (126, protos ps), (127, .int .i64 ps.length), (128, .int .i64 ps.length), (187, protos ps), (188, .int .i64 ps.length), (189, .int .i64 (ps.length))], [], hU ps, []⟩ : St)) := by
  refine loop_seek (fun i => (⟨[(0, code ps), (1, .ptr 0 0 0 1), (2, .ptr 1 0 0 1), (3, .int .i64 t), (31, protos ps), (32, .int .i64 ps.length), (33, .int .i64 ps.length), (59, protos ps), (60, .int .i64 ps.length), (61, .int .i64 ps.length), (126, protos ps), (127, .int .i64 ps.length), (128, .int .i64 ps.length), (187, protos ps), (188, .int .i64 ps.length), (189, .int .i64 i)], [], hU ps, []⟩ : St)) (fun (j : Int) => badNmd ps j ≠ none) (fun (j : Int) (st : St) => ResAt 2 1 3 (flt3 4 j ((badNmd ps j).getD 0)) st) (AExit.exit 8, (⟨[(0, code ps), (1, .ptr 0 0 0 1), (2, .ptr 1 0 0 1), (3, .int .i64 t), (31, protos ps), (32, .int .i64 ps.length), (33, .int .i64 ps.length), (59, protos ps), (60, .int .i64 ps.length), (61, .int .i64 ps.length), (126, protos ps), (127, .int .i64 ps.length), (128, .int .i64 ps.length), (187, protos ps), (188, .int .i64 ps.length), (189, .int .i64 (ps.length))], [], hU ps, []⟩ : St)) (0) (ps.length) ?_ ?_ ?_ (0) (by omega) (by omega)
  · intro i hi hn hp
    try simp only [Classical.not_not] at hp
    have hl := li_5 ps t i (nth ps i) hb (hs i hi hn); rw [← badNmd_is] at hl
    have hp' : badNmd ps i = none := (by simpa using hp); rw [hp'] at hl
    refine ⟨_, by simp (maxSteps := 10000000) -implicitDefEqProofs +contextual (disch := omega) only [ub_impl_CheckShape_4, rr_impl_CheckShape, ↓XD, XU, refs, goneIn, Nat.beq, Nat.ble, List.isEmpty, ↓reduceIte, sevalprocAttr, hU, hP, code, protos, Proto.cells, vals, ups, inss, nmds, hl, hn, hp]; rfl, by first | (simp [St.next, trim_all]; done) | (simp [St.next, trim_all]; omega) | (simp [St.next, trim, bare, refsL, refs]; done)⟩
  · intro i hi hn hp
    have hl := li_5 ps t i (nth ps i) hb (hs i hi hn); rw [← badNmd_is] at hl
    obtain ⟨k, hk⟩ := Option.ne_none_iff_exists'.1 hp; rw [hk] at hl; obtain ⟨st, hl, hg⟩ := hl
    refine ⟨_, by simp (maxSteps := 10000000) -implicitDefEqProofs +contextual (disch := omega) only [ub_impl_CheckShape_4, rr_impl_CheckShape, ↓XD, XU, refs, goneIn, Nat.beq, Nat.ble, List.isEmpty, ↓reduceIte, sevalprocAttr, hU, hP, code, protos, Proto.cells, vals, ups, inss, nmds, hl, hn, hp]; rfl, by rw [hk]; exact hg⟩
  · rintro i hi rfl
    refine ⟨by simp (maxSteps := 10000000) -implicitDefEqProofs +contextual (disch := omega) only [ub_impl_CheckShape_4, rr_impl_CheckShape, ↓XD, XU, refs, goneIn, Nat.beq, Nat.ble, List.isEmpty, ↓reduceIte, sevalprocAttr, hU, hP, code, protos, Proto.cells, vals, ups, inss, nmds, Int.lt_irrefl], by simp⟩
theorem li_7 (ps : List Proto) (t fi : Int) (f0 : 0 ≤ fi) (f1 : fi < ps.length) (hb : ps.length ≤ 1048576) (hs : POk (nth ps fi)) (hS : SizeP (nth ps fi)) : match seek (fun (j : Int) => ¬SIns ps fi j) 0 (nth ps fi).Ins.length with | some j => ∃ st, EV A (.loop (B_impl_CheckShape 7)) (⟨[(0, code ps), (1, .ptr 0 0 0 1), (2, .ptr 1 0 0 1), (3, .int .i64 t), (31, protos ps), (32, .int .i64 ps.length), (33, .int .i64 ps.length), (59, protos ps), (60, .int .i64 ps.length), (61, .int .i64 ps.length), (126, protos ps), (127, .int .i64 ps.length), (128, .int .i64 ps.length), (187, protos ps), (188, .int .i64 ps.length), (189, .int .i64 ps.length), (251, protos ps), (252, .int .i64 ps.length), (253, .int .i64 fi), (18, .ptr 2 0 0 1), (17, .int .i64 fi), (265, inss (nth ps fi).Ins), (266, .int .i64 (nth ps fi).Ins.length), (267, .int .i64 (0))], [], hP ps (nth ps fi), []⟩ : St) = some (.ret, st) ∧ ResAt 2 1 3 (flt3 5 fi j) st | none => EV A (.loop (B_impl_CheckShape 7)) (⟨[(0, code ps), (1, .ptr 0 0 0 1), (2, .ptr 1 0 0 1), (3, .int .i64 t), (31, protos ps), (32, .int .i64 ps.length), (33, .int .i64 ps.length), (59, protos ps), (60, .int .i64 ps.length), (61, .int .i64 ps.length), (126, protos ps), (127, .int .i64 ps.length), (128, .int .i64 ps.length), (187, protos ps), (188, .int .i64 ps.length), (189, .int .i64 ps.length), (251, protos ps), (252, .int .i64 ps.length), (253, .int .i64 fi), (18, .ptr 2 0 0 1), (17, .int .i64 fi), (265, inss (nth ps fi).Ins), (266, .int .i64 (nth ps fi).Ins.length), (267, .int .i64 (0))], [], hP ps (nth ps fi), []⟩ : St) = some (AExit.exit 14, (⟨[(0, code ps), (1, .ptr 0 0 0 1), (2, .ptr 1 0 0 1), (3, .int .i64 t), (31, protos ps), (32, .int .i64 ps.length), (33, .int .i64 ps.length), (59, protos ps), (60, .int .i64 ps.length), (61, .int .i64 ps.length), (126, protos ps), (127, .int .i64 ps.length), (128, .int .i64 ps.length), (187, protos ps), (188, .int .i64 ps.length), (189, .int .i64 ps.length), (251, protos ps), (252, .int .i64 ps.length), (253, .int .i64 fi), (18, .ptr 2 0 0 1), (17, .int .i64 fi), (265, inss (nth ps fi).Ins), (266, .int .i64 (nth ps fi).Ins.length), (267, .int .i64 ((nth ps fi).Ins.length))], [], hP ps (nth ps fi), []⟩ : St)) := by
  refine loop_seek (fun i => (⟨[(0, code ps), (1, .ptr 0 0 0 1), (2, .ptr 1 0 0 1), (3, .int .i64 t), (31, protos ps), (32, .int .i64 ps.length), (33, .int .i64 ps.length), (59, protos ps), (60, .int .i64 ps.length), (61, .int .i64 ps.length), (126, protos ps), (127, .int .i64 ps.length), (128, .int .i64 ps.length), (187, protos ps), (188, .int .i64 ps.length), (189, .int .i64 ps.length), (251, protos ps), (252, .int .i64 ps.length), (253, .int .i64 fi), (18, .ptr 2 0 0 1), (17, .int .i64 fi), (265, inss (nth ps fi).Ins), (266, .int .i64 (nth ps fi).Ins.length), (267, .int .i64 i)], [], hP ps (nth ps fi), []⟩ : St)) (fun (j : Int) => ¬SIns ps fi j) (fun (j : Int) (st : St) => ResAt 2 1 3 (flt3 5 fi j) st) (AExit.exit 14, (⟨[(0, code ps), (1, .ptr 0 0 0 1), (2, .ptr 1 0 0 1), (3, .int .i64 t), (31, protos ps), (32, .int .i64 ps.length), (33, .int .i64 ps.length), (59, protos ps), (60, .int .i64 ps.length), (61, .int .i64 ps.length), (126, protos ps), (127, .int .i64 ps.length), (128, .int .i64 ps.length), (187, protos ps), (188, .int .i64 ps.length), (189, .int .i64 ps.length), (251, protos ps), (252, .int .i64 ps.length), (253, .int .i64 fi), (18, .ptr 2 0 0 1), (17, .int .i64 fi), (265, inss (nth ps fi).Ins), (266, .int .i64 (nth ps fi).Ins.length), (267, .int .i64 ((nth ps fi).Ins.length))], [], hP ps (nth ps fi), []⟩ : St)) (0) ((nth ps fi).Ins.length) ?_ ?_ ?_ (0) (by omega) (by omega)
  · intro i hi hn hp
    have hc := hs.i; have hz := ei_insOk ps (nth ps fi) (nth (nth ps fi).Ins i) (hS.x i) hb hs; simp only [code, protos, Proto.cells, ups, vals, inss, nmds, Ins.cells] at hz
    simp only [Classical.not_not] at hp
    obtain ⟨hI, hl⟩ := (ins_same ps fi i hs).1 hp
    by_cases hL : i = ((nth ps fi).Ins.length : Int) - 1
    · subst hL
      by_cases h1 : (nth (nth ps fi).Ins ((nth ps fi).Ins.length - 1)).Op = 19
      · simp only [hI, h1] at hz
        refine ⟨_, by (simp (maxSteps := 10000000) -implicitDefEqProofs +contextual (disch := omega) only [ub_impl_CheckShape_7, rr_impl_CheckShape, hU, hP, code, protos, Proto.cells, ups, vals, inss, nmds, Ins.cells, ei_within, ↓XD, XU, refs, goneIn, Nat.beq, Nat.ble, List.isEmpty, ↓reduceIte, sevalprocAttr, hn, hz, hI, h1]) <;> rfl, by simp [St.next, trim, bare, refsL, refs]⟩
      by_cases h2 : (nth (nth ps fi).Ins ((nth ps fi).Ins.length - 1)).Op = 29
      · simp only [hI, h2] at hz
        refine ⟨_, by (simp (maxSteps := 10000000) -implicitDefEqProofs +contextual (disch := omega) only [ub_impl_CheckShape_7, rr_impl_CheckShape, hU, hP, code, protos, Proto.cells, ups, vals, inss, nmds, Ins.cells, ei_within, ↓XD, XU, refs, goneIn, Nat.beq, Nat.ble, List.isEmpty, ↓reduceIte, sevalprocAttr, hn, hz, hI, h2]) <;> rfl, by simp [St.next, trim, bare, refsL, refs]⟩
      have h3 : (nth (nth ps fi).Ins ((nth ps fi).Ins.length - 1)).Op = 30 := by
        rcases hl with h | h | h | h
        · exact absurd rfl h
        · exact absurd h h1
        · exact absurd h h2
        · exact h
      simp only [hI, h3] at hz
      refine ⟨_, by (simp (maxSteps := 10000000) -implicitDefEqProofs +contextual (disch := omega) only [ub_impl_CheckShape_7, rr_impl_CheckShape, hU, hP, code, protos, Proto.cells, ups, vals, inss, nmds, Ins.cells, ei_within, ↓XD, XU, refs, goneIn, Nat.beq, Nat.ble, List.isEmpty, ↓reduceIte, sevalprocAttr, hn, hz, hI, h3]) <;> rfl, by simp [St.next, trim, bare, refsL, refs]⟩
    · skip
      refine ⟨_, by (simp (maxSteps := 10000000) -implicitDefEqProofs +contextual (disch := omega) only [ub_impl_CheckShape_7, rr_impl_CheckShape, hU, hP, code, protos, Proto.cells, ups, vals, inss, nmds, Ins.cells, ei_within, ↓XD, XU, refs, goneIn, Nat.beq, Nat.ble, List.isEmpty, ↓reduceIte, sevalprocAttr, hn, hz, hI, hL]) <;> rfl, by simp [St.next, trim, bare, refsL, refs]⟩
  · intro i hi hn hp
    have hc := hs.i; have hz := ei_insOk ps (nth ps fi) (nth (nth ps fi).Ins i) (hS.x i) hb hs; simp only [code, protos, Proto.cells, ups, vals, inss, nmds, Ins.cells] at hz
    by_cases hI : ¬IIns ps (nth ps fi) (nth (nth ps fi).Ins i)
    · skip
      refine ⟨_, by (simp (maxSteps := 10000000) -implicitDefEqProofs +contextual (disch := omega) only [ub_impl_CheckShape_7, rr_impl_CheckShape, hU, hP, code, protos, Proto.cells, ups, vals, inss, nmds, Ins.cells, ei_within, ↓XD, XU, refs, goneIn, Nat.beq, Nat.ble, List.isEmpty, ↓reduceIte, sevalprocAttr, hn, hz, hI]) <;> rfl, by simp [ResAt, Env.get, Env.put]⟩
    replace hI := Classical.not_not.1 hI
    have hA : i = ((nth ps fi).Ins.length : Int) - 1 ∧ ¬(nth (nth ps fi).Ins i).Op = 19 ∧ ¬(nth (nth ps fi).Ins i).Op = 29 ∧ ¬(nth (nth ps fi).Ins i).Op = 30 := by
      refine Classical.byContradiction fun hn' => hp ((ins_same ps fi i hs).2 ⟨hI, ?_⟩)
      by_cases a1 : i = ((nth ps fi).Ins.length : Int) - 1
      · by_cases a2 : (nth (nth ps fi).Ins i).Op = 19
        · exact .inr (.inl a2)
        by_cases a3 : (nth (nth ps fi).Ins i).Op = 29
        · exact .inr (.inr (.inl a3))
        by_cases a4 : (nth (nth ps fi).Ins i).Op = 30
        · exact .inr (.inr (.inr a4))
        exact absurd ⟨a1, a2, a3, a4⟩ hn'
      · exact .inl a1
    obtain ⟨hL, h1, h2, h3⟩ := hA
    subst hL
    refine ⟨_, by (simp (maxSteps := 10000000) -implicitDefEqProofs +contextual (disch := omega) only [ub_impl_CheckShape_7, rr_impl_CheckShape, hU, hP, code, protos, Proto.cells, ups, vals, inss, nmds, Ins.cells, ei_within, ↓XD, XU, refs, goneIn, Nat.beq, Nat.ble, List.isEmpty, ↓reduceIte, sevalprocAttr, hn, hz, hI, h1, h2, h3]) <;> rfl, by simp [ResAt, Env.get, Env.put]⟩
  · rintro i hi rfl
    refine ⟨by simp (maxSteps := 10000000) -implicitDefEqProofs +contextual (disch := omega) only [ub_impl_CheckShape_7, rr_impl_CheckShape, ↓XD, XU, refs, goneIn, Nat.beq, Nat.ble, List.isEmpty, ↓reduceIte, sevalprocAttr, hP, code, protos, Proto.cells, inss, Ins.cells, Int.lt_irrefl], by simp⟩
theorem li_6 (ps : List Proto) (t : Int) (hb : ps.length ≤ 1048576) (hS : SizedP ps) (hs : ∀ p : Int, 0 ≤ p → p < ps.length → POk (nth ps p)) : match seek (fun (j : Int) => badIn ps j ≠ none) 0 ps.length with | some j => ∃ st, EV A (.loop (B_impl_CheckShape 6)) (⟨[(0, code ps), (1, .ptr 0 0 0 1), (2, .ptr 1 0 0 1), (3, .int .i64 t), (31, protos ps), (32, .int .i64 ps.length), (33, .int .i64 ps.length), (59, protos ps), (60, .int .i64 ps.length), (61, .int .i64 ps.length), (126, protos ps), (127, .int .i64 ps.length), (128, .int .i64 ps.length), (187, protos ps), (188, .int .i64 ps.length), (189, .int .i64 ps.length), (251, protos ps), (252, .int .i64 ps.length), (253, .int .i64 (0))], [], hU ps, []⟩ : St) = some (.ret, st) ∧ ResAt 2 1 3 (flt3 5 j ((badIn ps j).getD 0)) st | none => EV A (.loop (B_impl_CheckShape 6)) (⟨[(0, code ps), (1, .ptr 0 0 0 1), (2, .ptr 1 0 0 1), (3, .int .i64 t), (31, protos ps), (32, .int .i64 ps.length), (33, .int .i64 ps.length), (59, protos ps), (60, .int .i64 ps.length), (61, .int .i64 ps.length), (126, protos ps), (127, .int .i64 ps.length), (128, .int .i64 ps.length), (187, protos ps), (188, .int .i64 ps.length), (189, .int .i64 ps.length), (251, protos ps), (252, .int .i64 ps.length), (253, .int .i64 (0))], [], hU ps, []⟩ : St) = some (AExit.exit 12, (⟨[(0, code ps), (1, .ptr 0 0 0 1), (2, .ptr 1 0 0 1), (3, .int .i64 t), (31, protos ps), (32, .int .i64 ps.length), (33, .int .i64 ps.length), (59, protos ps), (60, .int .i64 ps.length), (61, .int .i64 ps.length), (126, protos ps), (127, .int .i64 ps.length), (128, .int .i64 ps.length), (187, protos ps), (188, .int .i64 ps.length), (189, .int .i64 ps.length), (251, protos ps), (252, .int .i64 ps.length), (253, .int .i64 (ps.length))], [], hU ps, []⟩ : St)) := by
  refine loop_seek (fun i => (⟨[(0, code ps), (1, .ptr 0 0 0 1), (2, .ptr 1 0 0 1), (3, .int .i64 t), (31, protos ps), (32, .int .i64 ps.length), (33, .int .i64 ps.length), (59, protos ps), (60, .int .i64 ps.length), (61, .int .i64 ps.length), (126, protos ps), (127, .int .i64 ps.length), (128, .int .i64 ps.length), (187, protos ps), (188, .int .i64 ps.length), (189, .int .i64 ps.length), (251, protos ps), (252, .int .i64 ps.length), (253, .int .i64 i)], [], hU ps, []⟩ : St)) (fun (j : Int) => badIn ps j ≠ none) (fun (j : Int) (st : St) => ResAt 2 1 3 (flt3 5 j ((badIn ps j).getD 0)) st) (AExit.exit 12, (⟨[(0, code ps), (1, .ptr 0 0 0 1), (2, .ptr 1 0 0 1), (3, .int .i64 t), (31, protos ps), (32, .int .i64 ps.length), (33, .int .i64 ps.length), (59, protos ps), (60, .int .i64 ps.length), (61, .int .i64 ps.length), (126, protos ps), (127, .int .i64 ps.length), (128, .int .i64 ps.length), (187, protos ps), (188, .int .i64 ps.length), (189, .int .i64 ps.length), (251, protos ps), (252, .int .i64 ps.length), (253, .int .i64 (ps.length))], [], hU ps, []⟩ : St)) (0) (ps.length) ?_ ?_ ?_ (0) (by omega) (by omega)
  · intro i hi hn hp
    have hl := li_7 ps t i hi hn hb (hs i hi hn) (hS i); have e0 : ((nth ps i).Ins.length : Int) = 0 ↔ (nth ps i).Ins.length = 0 := by omega
    have hp' : badIn ps i = none := (by simpa using hp)
    unfold badIn at hp'
    by_cases hz : (nth ps i).Ins.length = 0
    · rw [if_pos hz] at hp'; exact absurd hp' (by simp)
    · rw [if_neg hz] at hp'
      rw [hp'] at hl
      refine ⟨_, by (simp (maxSteps := 10000000) -implicitDefEqProofs +contextual (disch := omega) only [ub_impl_CheckShape_6, rr_impl_CheckShape, hU, hP, code, protos, Proto.cells, ups, vals, inss, nmds, ↓XD, XU, refs, goneIn, Nat.beq, Nat.ble, List.isEmpty, ↓reduceIte, sevalprocAttr, hn, hz, e0, hl]) <;> rfl, by simp [St.next, trim, bare, refsL, refs]⟩
  · intro i hi hn hp
    have hl := li_7 ps t i hi hn hb (hs i hi hn) (hS i); have e0 : ((nth ps i).Ins.length : Int) = 0 ↔ (nth ps i).Ins.length = 0 := by omega
    obtain ⟨k, hk⟩ := Option.ne_none_iff_exists'.1 hp
    unfold badIn at hk
    by_cases hz : (nth ps i).Ins.length = 0
    · refine ⟨_, by (simp (maxSteps := 10000000) -implicitDefEqProofs +contextual (disch := omega) only [ub_impl_CheckShape_6, rr_impl_CheckShape, hU, hP, code, protos, Proto.cells, ups, vals, inss, nmds, ↓XD, XU, refs, goneIn, Nat.beq, Nat.ble, List.isEmpty, ↓reduceIte, sevalprocAttr, hn, hz, e0]) <;> rfl, by unfold badIn; rw [if_pos hz]; simp [ResAt, Env.get, Env.put]⟩
    · rw [if_neg hz] at hk
      rw [hk] at hl
      obtain ⟨st, hl, hg⟩ := hl
      refine ⟨_, by (simp (maxSteps := 10000000) -implicitDefEqProofs +contextual (disch := omega) only [ub_impl_CheckShape_6, rr_impl_CheckShape, hU, hP, code, protos, Proto.cells, ups, vals, inss, nmds, ↓XD, XU, refs, goneIn, Nat.beq, Nat.ble, List.isEmpty, ↓reduceIte, sevalprocAttr, hn, hz, e0, hl]) <;> rfl, by unfold badIn; rw [if_neg hz, hk]; exact hg⟩
  · rintro i hi rfl
    refine ⟨by simp (maxSteps := 10000000) -implicitDefEqProofs +contextual (disch := omega) only [ub_impl_CheckShape_6, rr_impl_CheckShape, ↓XD, XU, refs, goneIn, Nat.beq, Nat.ble, List.isEmpty, ↓reduceIte, sevalprocAttr, hU, code, protos, Int.lt_irrefl], by simp⟩
end Go.Proofs.Tryd.Av
end
section
attribute [local congr] ite_congr
set_option linter.unusedSimpArgs false
set_option linter.unusedVariables false
set_option maxRecDepth 10000
set_option maxHeartbeats 4000000
namespace Go.Proofs.Tryd.Av
open Go Go.Av Classical
abbrev E8 (ps : List Proto) (t i : Int) : Env := [(0, code ps), (1, .ptr 0 0 0 1), (2, .ptr 1 0 0 1), (3, .int .i64 t), (31, protos ps), (32, .int .i64 ps.length), (33, .int .i64 ps.length), (59, protos ps), (60, .int .i64 ps.length), (61, .int .i64 ps.length), (126, protos ps), (127, .int .i64 ps.length), (128, .int .i64 ps.length), (187, protos ps), (188, .int .i64 ps.length), (189, .int .i64 ps.length), (251, protos ps), (252, .int .i64 ps.length), (253, .int .i64 ps.length), (21, .sl 2 0 ps.length ps.length), (310, protos ps), (311, .int .i64 ps.length), (312, .int .i64 i)]
noncomputable abbrev hMI (ps : List Proto) (f : Proto) (l : List Bool) : Heap := [.cells 1 [[protos ps]], .cells 3 [[.int .i64 0, .int .i64 0, .int .i64 0]], .cells 1 (bl l), .cells 9 [f.cells]]
abbrev gUp (f : Proto) (l : List Up) (i : Int) (b : Bool) : Bool := if (nth l i).Local = true then (!decide (0 ≤ (nth l i).Index) || !decide ((nth l i).Index ≤ f.Regs - 1) || b) else (!decide (0 ≤ (nth l i).Index) || !decide ((nth l i).Index ≤ (f.Ups.length : Int) - 1) || b)
theorem li_10 (ps : List Proto) (f : Proto) (nd : Ins) (l : List Up) (s : List Bool) (t p n : Int) (hf : POk f) (hl : l.length ≤ 1048576) (a0 : Bool) (hok0 : True) : EV A (.loop (B_impl_CheckShape 10)) (⟨E8 ps t p ++ [(23, .ptr 3 0 0 1), (22, .int .i64 p), (318, inss f.Ins), (319, .int .i64 f.Ins.length), (320, .int .i64 n), (25, .ptr 4 0 0 1), (24, .int .i64 n), (26, .bool a0), (349, ups l), (350, .int .i64 l.length), (351, .int .i64 (0))], [], hMI ps f s ++ [.cells 5 [nd.cells]], []⟩ : St) = some (AExit.exit 20, (⟨E8 ps t p ++ [(23, .ptr 3 0 0 1), (22, .int .i64 p), (318, inss f.Ins), (319, .int .i64 f.Ins.length), (320, .int .i64 n), (25, .ptr 4 0 0 1), (24, .int .i64 n), (26, .bool (iter (fun (i : Int) (a : Bool) => gUp f l i a) ((l.length : Int) - 0).toNat (0) a0)), (349, ups l), (350, .int .i64 l.length), (351, .int .i64 (l.length))], [], hMI ps f s ++ [.cells 5 [nd.cells]], []⟩ : St)) ∧ True := by
  refine loop_iter (fun i (a : Bool) => (⟨E8 ps t p ++ [(23, .ptr 3 0 0 1), (22, .int .i64 p), (318, inss f.Ins), (319, .int .i64 f.Ins.length), (320, .int .i64 n), (25, .ptr 4 0 0 1), (24, .int .i64 n), (26, .bool a), (349, ups l), (350, .int .i64 l.length), (351, .int .i64 i)], [], hMI ps f s ++ [.cells 5 [nd.cells]], []⟩ : St)) (fun (i : Int) (a : Bool) => gUp f l i a) (fun i (a : Bool) => True) (fun a => (AExit.exit 20, (⟨E8 ps t p ++ [(23, .ptr 3 0 0 1), (22, .int .i64 p), (318, inss f.Ins), (319, .int .i64 f.Ins.length), (320, .int .i64 n), (25, .ptr 4 0 0 1), (24, .int .i64 n), (26, .bool a), (349, ups l), (350, .int .i64 l.length), (351, .int .i64 (l.length))], [], hMI ps f s ++ [.cells 5 [nd.cells]], []⟩ : St))) (0) (l.length) ?_ ?_ (0) a0 (by omega) (by omega) hok0
  · intro i a hi hn hok
    have q1 := hf.r0; have q2 := hf.r1; have q3 := hf.u
    by_cases hL : (nth l i).Local = true
    · refine ⟨⟨_, by simp (maxSteps := 10000000) -implicitDefEqProofs +contextual (disch := omega) only [ub_impl_CheckShape_10, rr_impl_CheckShape, ↓XD, XU, refs, goneIn, Nat.beq, Nat.ble, List.isEmpty, ↓reduceIte, sevalprocAttr, E8, hMI, code, protos, Proto.cells, ups, vals, inss, nmds, Up.cells, Ins.cells, ei_within, List.cons_append, List.nil_append, hL, hn, hok]; rfl, by first | (simp [St.next, trim_all, gUp, hL]; done) | (simp [St.next, trim_all, gUp, hL]; omega) | (simp [St.next, trim, bare, refsL, refs, gUp, hL]; done)⟩, by trivial⟩
    · refine ⟨⟨_, by simp (maxSteps := 10000000) -implicitDefEqProofs +contextual (disch := omega) only [ub_impl_CheckShape_10, rr_impl_CheckShape, ↓XD, XU, refs, goneIn, Nat.beq, Nat.ble, List.isEmpty, ↓reduceIte, sevalprocAttr, E8, hMI, code, protos, Proto.cells, ups, vals, inss, nmds, Up.cells, Ins.cells, ei_within, List.cons_append, List.nil_append, hL, hn, hok]; rfl, by first | (simp [St.next, trim_all, gUp, hL]; done) | (simp [St.next, trim_all, gUp, hL]; omega) | (simp [St.next, trim, bare, refsL, refs, gUp, hL]; done)⟩, by trivial⟩
  · rintro i a hi rfl hok
    refine ⟨by simp (maxSteps := 10000000) -implicitDefEqProofs +contextual (disch := omega) only [ub_impl_CheckShape_10, rr_impl_CheckShape, ↓XD, XU, refs, goneIn, Nat.beq, Nat.ble, List.isEmpty, ↓reduceIte, sevalprocAttr, E8, hMI, code, protos, Proto.cells, ups, vals, inss, nmds, Up.cells, Ins.cells, ei_within, List.cons_append, List.nil_append, Int.lt_irrefl, hok], by simp⟩
theorem gUp_is (f : Proto) (l : List Up) (i : Int) (b : Bool) : gUp f l i b = (b || decide ¬UpP f (nth l i)) := by
  rw [Bool.eq_iff_iff]
  simp only [gUp, UpP]
  by_cases hL : (nth l i).Local = true
  · simp only [hL, if_true]
    cases b <;> simp <;> omega
  · simp only [hL, if_false]
    cases b <;> simp <;> omega
theorem iter_gUp (f : Proto) (l : List Up) : ∀ (m : Nat) (i : Int) (b : Bool), i + m ≤ l.length → iter (gUp f l) m i b = (b || decide ¬(∀ j, i ≤ j → j < i + m → UpP f (nth l j)))
  | 0, i, b, h => by
    rw [iter]
    have : ∀ j, i ≤ j → j < i + (0 : Nat) → UpP f (nth l j) := fun j a c => by omega
    rw [decide_eq_false (Classical.not_not.2 this), Bool.or_false]
  | m + 1, i, b, h => by
    rw [iter, iter_gUp f l m (i + 1) _ (by omega), gUp_is, Bool.or_assoc]
    congr 1
    rw [Bool.eq_iff_iff]
    simp only [Bool.or_eq_true, decide_eq_true_eq]
    constructor
    · rintro (h1 | h1) h2
      · exact h1 (h2 i (by omega) (by omega))
      · exact h1 fun j a c => h2 j (by omega) (by omega)
    · intro h1
      by_cases h2 : UpP f (nth l i)
      · right; intro h3; refine h1 fun j a c => ?_
        by_cases e : j = i
        · subst e; exact h2
        · exact h3 j (by omega) (by omega)
      · exact .inl h2
theorem iter_ups (f : Proto) (l : List Up) (b : Bool) : iter (fun (i : Int) (a : Bool) => gUp f l i a) ((l.length : Int) - 0).toNat 0 b = (b || decide ¬UpsP f l) := by
  rw [show ((l.length : Int) - 0).toNat = l.length by omega]
  rw [show (fun (i : Int) (a : Bool) => gUp f l i a) = gUp f l from rfl, iter_gUp f l _ _ _ (by omega)]
  congr 1
  rw [Bool.eq_iff_iff]
  simp only [decide_eq_true_eq, UpsP, seek_none, Classical.not_not]
  exact not_congr ⟨fun h j a c => h j a (by omega), fun h j a c => h j a (by omega)⟩
theorem li_9 (ps : List Proto) (t p : Int) (p0 : 0 ≤ p) (p1 : p < ps.length) (hb : ps.length ≤ 1048576) (hf : Fine ps) (a0 : List Bool) (hok0 : a0.length = ps.length) : OnSum (fun (a : List Bool) => EV A (.loop (B_impl_CheckShape 9)) (⟨E8 ps t p ++ [(23, .ptr 3 0 0 1), (22, .int .i64 p), (318, inss (nth ps p).Ins), (319, .int .i64 (nth ps p).Ins.length), (320, .int .i64 (0))], [], hMI ps (nth ps p) a0, []⟩ : St) = some (AExit.exit 18, (⟨E8 ps t p ++ [(23, .ptr 3 0 0 1), (22, .int .i64 p), (318, inss (nth ps p).Ins), (319, .int .i64 (nth ps p).Ins.length), (320, .int .i64 ((nth ps p).Ins.length))], [], hMI ps (nth ps p) a, []⟩ : St)) ∧ a.length = ps.length) (fun (r : Int) => ∃ st, EV A (.loop (B_impl_CheckShape 9)) (⟨E8 ps t p ++ [(23, .ptr 3 0 0 1), (22, .int .i64 p), (318, inss (nth ps p).Ins), (319, .int .i64 (nth ps p).Ins.length), (320, .int .i64 (0))], [], hMI ps (nth ps p) a0, []⟩ : St) = some (.ret, st) ∧ ResAt 2 1 3 (flt3 6 p r) st) (iterx (fun (i : Int) (a : List Bool) => gMade ps p i a) (((nth ps p).Ins.length : Int) - 0).toNat (0) a0) := by
  have hb2 := (hf.ok p p0 p1).i
  refine loop_iterq (P := A) (body := (B_impl_CheckShape 9)) (fun i (a : List Bool) => (⟨E8 ps t p ++ [(23, .ptr 3 0 0 1), (22, .int .i64 p), (318, inss (nth ps p).Ins), (319, .int .i64 (nth ps p).Ins.length), (320, .int .i64 i)], [], hMI ps (nth ps p) a, []⟩ : St)) (fun (i : Int) (a : List Bool) => gMade ps p i a) (fun i (a : List Bool) => a.length = ps.length) (fun a => (AExit.exit 18, (⟨E8 ps t p ++ [(23, .ptr 3 0 0 1), (22, .int .i64 p), (318, inss (nth ps p).Ins), (319, .int .i64 (nth ps p).Ins.length), (320, .int .i64 ((nth ps p).Ins.length))], [], hMI ps (nth ps p) a, []⟩ : St))) (fun (r : Int) (st : St) => ResAt 2 1 3 (flt3 6 p r) st) (0) ((nth ps p).Ins.length) ?_ ?_ (0) a0 (by omega) (by omega) hok0
  · intro i a hi hn hok
    have hk := hf.ok p p0 p1
    have hb2 := hk.i
    rw [gMade]
    by_cases h2 : (nth (nth ps p).Ins i).Op = 11
    · rw [if_pos h2]
      have hg1 := fn_b (hf.ins p p0 p1 i hi hn) h2
      have hu := (hf.ok _ hg1.1 hg1.2).u
      have hl := fun b s => (li_10 ps (nth ps p) (nth (nth ps p).Ins i) (nth ps (nth (nth ps p).Ins i).B).Ups s t p i hk hu b trivial).1
      simp only [iter_ups, E8, hMI, List.cons_append, List.nil_append, bl, code, protos, Proto.cells, ups, vals, inss, nmds, Ins.cells, h2] at hl
      by_cases h3 : (nth (nth ps p).Ins i).B ≤ p
      · rw [if_pos (.inl (.inl h3))]
        refine ⟨_, by (simp (maxSteps := 10000000) -implicitDefEqProofs +contextual (disch := omega) only [ub_impl_CheckShape_9, rr_impl_CheckShape, E8, hMI, List.cons_append, List.nil_append, code, protos, Proto.cells, ups, vals, inss, nmds, Ins.cells, ↓XD, XU, refs, goneIn, Nat.beq, Nat.ble, List.isEmpty, ↓reduceIte, sevalprocAttr, hn, hok, h2, h3, hl]) <;> rfl, by simp [ResAt, Env.get, Env.put]⟩
      · by_cases h4 : nth a (nth (nth ps p).Ins i).B = true
        · rw [if_pos (.inl (.inr h4))]
          refine ⟨_, by (simp (maxSteps := 10000000) -implicitDefEqProofs +contextual (disch := omega) only [ub_impl_CheckShape_9, rr_impl_CheckShape, E8, hMI, List.cons_append, List.nil_append, code, protos, Proto.cells, ups, vals, inss, nmds, Ins.cells, ↓XD, XU, refs, goneIn, Nat.beq, Nat.ble, List.isEmpty, ↓reduceIte, sevalprocAttr, hn, hok, h2, h3, h4, hl]) <;> rfl, by simp [ResAt, Env.get, Env.put]⟩
        · by_cases h5 : UpsP (nth ps p) (nth ps (nth (nth ps p).Ins i).B).Ups
          · rw [if_neg (by rintro ((h | h) | h); exact h3 h; exact h4 h; exact h h5)]
            refine ⟨⟨_, by (simp (maxSteps := 10000000) -implicitDefEqProofs +contextual (disch := omega) only [ub_impl_CheckShape_9, rr_impl_CheckShape, E8, hMI, List.cons_append, List.nil_append, code, protos, Proto.cells, ups, vals, inss, nmds, Ins.cells, ↓XD, XU, refs, goneIn, Nat.beq, Nat.ble, List.isEmpty, ↓reduceIte, sevalprocAttr, hn, hok, h2, h3, h4, h5, hl]) <;> rfl, by simp [St.next, trim, bare, refsL, refs]⟩, by simpa using hok⟩
          · rw [if_pos (.inr h5)]
            refine ⟨_, by (simp (maxSteps := 10000000) -implicitDefEqProofs +contextual (disch := omega) only [ub_impl_CheckShape_9, rr_impl_CheckShape, E8, hMI, List.cons_append, List.nil_append, code, protos, Proto.cells, ups, vals, inss, nmds, Ins.cells, ↓XD, XU, refs, goneIn, Nat.beq, Nat.ble, List.isEmpty, ↓reduceIte, sevalprocAttr, hn, hok, h2, h3, h4, h5, hl]) <;> rfl, by simp [ResAt, Env.get, Env.put]⟩
    · rw [if_neg h2]
      refine ⟨⟨_, by (simp (maxSteps := 10000000) -implicitDefEqProofs +contextual (disch := omega) only [ub_impl_CheckShape_9, rr_impl_CheckShape, E8, hMI, List.cons_append, List.nil_append, code, protos, Proto.cells, ups, vals, inss, nmds, Ins.cells, ↓XD, XU, refs, goneIn, Nat.beq, Nat.ble, List.isEmpty, ↓reduceIte, sevalprocAttr, hn, hok, h2]) <;> rfl, by simp [St.next, trim, bare, refsL, refs]⟩, hok⟩
  · rintro i a hi rfl hok
    refine ⟨by simp (maxSteps := 10000000) -implicitDefEqProofs +contextual (disch := omega) only [ub_impl_CheckShape_9, rr_impl_CheckShape, ↓XD, XU, refs, goneIn, Nat.beq, Nat.ble, List.isEmpty, ↓reduceIte, sevalprocAttr, E8, List.cons_append, List.nil_append, Int.lt_irrefl, hok], by simp⟩
end Go.Proofs.Tryd.Av
end
section
attribute [local congr] ite_congr
set_option linter.unusedSimpArgs false
set_option linter.unusedVariables false
set_option maxRecDepth 10000
set_option maxHeartbeats 4000000
namespace Go.Proofs.Tryd.Av
open Go Go.Av Classical
theorem li_8 (ps : List Proto) (t : Int) (hb : ps.length ≤ 1048576) (hf : Fine ps) (a0 : List Bool) (hok0 : a0.length = ps.length) : OnSum (fun (a : List Bool) => EV A (.loop (B_impl_CheckShape 8)) (⟨E8 ps t (0), [], [.cells 1 [[protos ps]], .cells 3 [[.int .i64 0, .int .i64 0, .int .i64 0]], .cells 1 (bl a0)], []⟩ : St) = some (AExit.exit 16, (⟨E8 ps t (ps.length), [], [.cells 1 [[protos ps]], .cells 3 [[.int .i64 0, .int .i64 0, .int .i64 0]], .cells 1 (bl a)], []⟩ : St)) ∧ a.length = ps.length) (fun (r : Int × Int) => ∃ st, EV A (.loop (B_impl_CheckShape 8)) (⟨E8 ps t (0), [], [.cells 1 [[protos ps]], .cells 3 [[.int .i64 0, .int .i64 0, .int .i64 0]], .cells 1 (bl a0)], []⟩ : St) = some (.ret, st) ∧ ResAt 2 1 3 (flt3 6 r.1 r.2) st) (iterx (fun (i : Int) (a : List Bool) => gMades ps i a) ((ps.length : Int) - 0).toNat (0) a0) := by
  refine loop_iterq (P := A) (body := (B_impl_CheckShape 8)) (fun i (a : List Bool) => (⟨E8 ps t i, [], [.cells 1 [[protos ps]], .cells 3 [[.int .i64 0, .int .i64 0, .int .i64 0]], .cells 1 (bl a)], []⟩ : St)) (fun (i : Int) (a : List Bool) => gMades ps i a) (fun i (a : List Bool) => a.length = ps.length) (fun a => (AExit.exit 16, (⟨E8 ps t (ps.length), [], [.cells 1 [[protos ps]], .cells 3 [[.int .i64 0, .int .i64 0, .int .i64 0]], .cells 1 (bl a)], []⟩ : St))) (fun (r : Int × Int) (st : St) => ResAt 2 1 3 (flt3 6 r.1 r.2) st) (0) (ps.length) ?_ ?_ (0) a0 (by omega) (by omega) hok0
  · intro i a hi hn hok
    have h2 := li_9 ps t i hi hn hb hf a hok
    have hI : madeIn ps i a = iterx (fun (n : Int) (a : List Bool) => gMade ps i n a) (((nth ps i).Ins.length : Int) - 0).toNat 0 a := rfl
    rw [← hI] at h2
    rw [gMades]
    cases hr : madeIn ps i a with
    | inl s' =>
      rw [hr] at h2
      obtain ⟨h2, hs'⟩ := h2
      simp only [E8, hMI, List.cons_append, List.nil_append, code, protos, Proto.cells, ups, vals, inss, nmds] at h2
      refine ⟨⟨_, by (simp (maxSteps := 10000000) -implicitDefEqProofs +contextual (disch := omega) only [ub_impl_CheckShape_8, rr_impl_CheckShape, E8, hMI, code, protos, Proto.cells, ups, vals, inss, nmds, ↓XD, XU, refs, goneIn, Nat.beq, Nat.ble, List.isEmpty, ↓reduceIte, sevalprocAttr, hn, h2, hok]) <;> rfl, by simp [St.next, trim, bare, refsL, refs]⟩, hs'⟩
    | inr n =>
      rw [hr] at h2
      obtain ⟨st, h2, hg2⟩ := h2
      simp only [E8, hMI, List.cons_append, List.nil_append, code, protos, Proto.cells, ups, vals, inss, nmds] at h2
      exact ⟨_, by (simp (maxSteps := 10000000) -implicitDefEqProofs +contextual (disch := omega) only [ub_impl_CheckShape_8, rr_impl_CheckShape, E8, hMI, code, protos, Proto.cells, ups, vals, inss, nmds, ↓XD, XU, refs, goneIn, Nat.beq, Nat.ble, List.isEmpty, ↓reduceIte, sevalprocAttr, hn, h2, hok]) <;> rfl, hg2⟩
  · rintro i a hi rfl hok
    refine ⟨by simp (maxSteps := 10000000) -implicitDefEqProofs +contextual (disch := omega) only [ub_impl_CheckShape_8, rr_impl_CheckShape, ↓XD, XU, refs, goneIn, Nat.beq, Nat.ble, List.isEmpty, ↓reduceIte, sevalprocAttr, E8, Int.lt_irrefl, hok], by simp⟩
theorem li_11 (ps : List Proto) (t : Int) (l : List Bool) (hb : ps.length ≤ 1048576) (hl : l.length = ps.length) : match seek (fun (j : Int) => 0 < j ∧ ¬nth l j = true) 0 ps.length with | some j => ∃ st, EV A (.loop (B_impl_CheckShape 11)) (⟨E8 ps t ps.length ++ [(390, .int .i64 ps.length), (391, .int .i64 (0))], [], [.cells 1 [[protos ps]], .cells 3 [[.int .i64 0, .int .i64 0, .int .i64 0]], .cells 1 (bl l)], []⟩ : St) = some (.ret, st) ∧ ResAt 2 1 3 (flt3 7 j 0) st | none => EV A (.loop (B_impl_CheckShape 11)) (⟨E8 ps t ps.length ++ [(390, .int .i64 ps.length), (391, .int .i64 (0))], [], [.cells 1 [[protos ps]], .cells 3 [[.int .i64 0, .int .i64 0, .int .i64 0]], .cells 1 (bl l)], []⟩ : St) = some (AExit.exit 22, (⟨E8 ps t ps.length ++ [(390, .int .i64 ps.length), (391, .int .i64 (ps.length))], [], [.cells 1 [[protos ps]], .cells 3 [[.int .i64 0, .int .i64 0, .int .i64 0]], .cells 1 (bl l)], []⟩ : St)) := by
  refine loop_seek (fun i => (⟨E8 ps t ps.length ++ [(390, .int .i64 ps.length), (391, .int .i64 i)], [], [.cells 1 [[protos ps]], .cells 3 [[.int .i64 0, .int .i64 0, .int .i64 0]], .cells 1 (bl l)], []⟩ : St)) (fun (j : Int) => 0 < j ∧ ¬nth l j = true) (fun (j : Int) (st : St) => ResAt 2 1 3 (flt3 7 j 0) st) (AExit.exit 22, (⟨E8 ps t ps.length ++ [(390, .int .i64 ps.length), (391, .int .i64 (ps.length))], [], [.cells 1 [[protos ps]], .cells 3 [[.int .i64 0, .int .i64 0, .int .i64 0]], .cells 1 (bl l)], []⟩ : St)) (0) (ps.length) ?_ ?_ ?_ (0) (by omega) (by omega)
  · intro i hi hn hp
    by_cases h0 : 0 < i
    · have h1 : nth l i = true := Classical.byContradiction fun h => hp ⟨h0, h⟩
      refine ⟨_, by (simp (maxSteps := 10000000) -implicitDefEqProofs +contextual (disch := omega) only [ub_impl_CheckShape_11, rr_impl_CheckShape, E8, List.cons_append, List.nil_append, code, protos, ↓XD, XU, refs, goneIn, Nat.beq, Nat.ble, List.isEmpty, ↓reduceIte, sevalprocAttr, hn, h0, h1, hl]) <;> rfl, by simp [St.next, trim_all]⟩
    · refine ⟨_, by (simp (maxSteps := 10000000) -implicitDefEqProofs +contextual (disch := omega) only [ub_impl_CheckShape_11, rr_impl_CheckShape, E8, List.cons_append, List.nil_append, code, protos, ↓XD, XU, refs, goneIn, Nat.beq, Nat.ble, List.isEmpty, ↓reduceIte, sevalprocAttr, hn, h0, hl]) <;> rfl, by simp [St.next, trim_all]⟩
  · intro i hi hn hp
    obtain ⟨h0, h1⟩ := hp
    refine ⟨_, by (simp (maxSteps := 10000000) -implicitDefEqProofs +contextual (disch := omega) only [ub_impl_CheckShape_11, rr_impl_CheckShape, E8, List.cons_append, List.nil_append, code, protos, ↓XD, XU, refs, goneIn, Nat.beq, Nat.ble, List.isEmpty, ↓reduceIte, sevalprocAttr, hn, h0, h1, hl]) <;> rfl, by simp [ResAt, Env.get, Env.put]⟩
  · rintro i hi rfl
    refine ⟨by simp (maxSteps := 10000000) -implicitDefEqProofs +contextual (disch := omega) only [ub_impl_CheckShape_11, rr_impl_CheckShape, ↓XD, XU, refs, goneIn, Nat.beq, Nat.ble, List.isEmpty, ↓reduceIte, sevalprocAttr, E8, List.cons_append, List.nil_append, code, protos, hl, Int.lt_irrefl], by simp⟩
theorem seek_from1 (l : List Bool) {n : Int} (hn : 1 ≤ n) : seek (fun j => 0 < j ∧ ¬nth l j = true) 0 n = seek (fun j => ¬nth l j = true) 1 n := by
  rw [seek_miss (by omega) (by simp)]
  exact seek_congr fun j j0 j1 => ⟨fun h => h.2, fun h => ⟨by omega, h⟩⟩
theorem ei_CheckShape (ps : List Proto) (hb : ps.length ≤ 1048576) (ht : total ps ≤ 1048576) (hs : SizedP ps) : EP A n_impl_CheckShape [code ps] = some (fl3 (specFault ps)) := by
  obtain ⟨e0, k0⟩ := li_0 ps hb ht 0 (by simp [totalN])
  simp only [k0] at e0
  have hT : totalN ps (ps.length : Int).toNat = total ps := by rw [totalN, total]; simp
  rw [hT] at e0
  simp only [hU, code, protos] at e0
  have e1 := li_1 ps (total ps) hb hs
  have e2 := li_2 ps (total ps) hb hs
  simp only [hU, code, protos] at e1 e2
  by_cases hB : Big ps
  · have hS : specFault ps = (1, 0, 0) := by simp [specFault, parts, hB]
    rw [hS]
    rw [Big] at hB
    by_cases z1 : (ps.length : Int) < 1
    · simp (maxSteps := 10000000) -implicitDefEqProofs +contextual (disch := omega) only [e_impl_CheckShape, u_impl_CheckShape, rr_impl_CheckShape, code, protos, ↓XD, XU, refs, goneIn, Nat.beq, Nat.ble, List.isEmpty, ↓reduceIte, sevalprocAttr, e0, z1]
    · by_cases z2 : (200 : Int) < ps.length
      · simp (maxSteps := 10000000) -implicitDefEqProofs +contextual (disch := omega) only [e_impl_CheckShape, u_impl_CheckShape, rr_impl_CheckShape, code, protos, ↓XD, XU, refs, goneIn, Nat.beq, Nat.ble, List.isEmpty, ↓reduceIte, sevalprocAttr, e0, z1, z2]
      · have z3 : 6000 < total ps := by omega
        simp (maxSteps := 10000000) -implicitDefEqProofs +contextual (disch := omega) only [e_impl_CheckShape, u_impl_CheckShape, rr_impl_CheckShape, code, protos, ↓XD, XU, refs, goneIn, Nat.beq, Nat.ble, List.isEmpty, ↓reduceIte, sevalprocAttr, e0, z1, z2, z3]
  · have hB' := hB
    rw [Big] at hB
    have z1 : ¬(ps.length : Int) < 1 := by omega
    have z2 : ¬(200 : Int) < ps.length := by omega
    have z3 : ¬6000 < total ps := by omega
    cases h1 : badHead ps with
    | some f =>
      have hS : specFault ps = (2, f, 0) := by simp [specFault, parts, hB', h1]
      rw [hS]
      unfold badHead at h1
      rw [h1] at e1
      obtain ⟨st, e1, g1, g2⟩ := e1
      simp (maxSteps := 10000000) -implicitDefEqProofs +contextual (disch := omega) only [e_impl_CheckShape, u_impl_CheckShape, rr_impl_CheckShape, code, protos, ↓XD, XU, refs, goneIn, Nat.beq, Nat.ble, List.isEmpty, ↓reduceIte, sevalprocAttr, e0, z1, z2, z3, e1, g1, g2]
    | none =>
      have hk := heads_pok hs h1
      have e4 := li_4 ps (total ps) hb hk
      have e6 := li_6 ps (total ps) hb hs hk
      simp only [hU, code, protos] at e4 e6
      have h1' := h1
      unfold badHead at h1
      rw [h1] at e1
      cases h2 : badCons ps with
      | some f =>
        have hS : specFault ps = (3, f, (badCon ps f).getD 0) := by simp [specFault, parts, hB', h1', h2]
        rw [hS]
        unfold badCons at h2
        rw [h2] at e2
        obtain ⟨st, e2, g1, g2⟩ := e2
        simp (maxSteps := 10000000) -implicitDefEqProofs +contextual (disch := omega) only [e_impl_CheckShape, u_impl_CheckShape, rr_impl_CheckShape, code, protos, ↓XD, XU, refs, goneIn, Nat.beq, Nat.ble, List.isEmpty, ↓reduceIte, sevalprocAttr, e0, z1, z2, z3, e1, e2, g1, g2]
      | none =>
        have h2' := h2
        unfold badCons at h2
        rw [h2] at e2
        cases h3 : badNmds ps with
        | some f =>
          have hS : specFault ps = (4, f, (badNmd ps f).getD 0) := by simp [specFault, parts, hB', h1', h2', h3]
          rw [hS]
          unfold badNmds at h3
          rw [h3] at e4
          obtain ⟨st, e4, g1, g2⟩ := e4
          simp (maxSteps := 10000000) -implicitDefEqProofs +contextual (disch := omega) only [e_impl_CheckShape, u_impl_CheckShape, rr_impl_CheckShape, code, protos, ↓XD, XU, refs, goneIn, Nat.beq, Nat.ble, List.isEmpty, ↓reduceIte, sevalprocAttr, e0, z1, z2, z3, e1, e2, e4, g1, g2]
        | none =>
          have h3' := h3
          unfold badNmds at h3
          rw [h3] at e4
          cases h4 : badIns ps with
          | some f =>
            have hS : specFault ps = (5, f, (badIn ps f).getD 0) := by simp [specFault, parts, hB', h1', h2', h3', h4]
            rw [hS]
            unfold badIns at h4
            rw [h4] at e6
            obtain ⟨st, e6, g1, g2⟩ := e6
            simp (maxSteps := 10000000) -implicitDefEqProofs +contextual (disch := omega) only [e_impl_CheckShape, u_impl_CheckShape, rr_impl_CheckShape, code, protos, ↓XD, XU, refs, goneIn, Nat.beq, Nat.ble, List.isEmpty, ↓reduceIte, sevalprocAttr, e0, z1, z2, z3, e1, e2, e4, e6, g1, g2]
          | none =>
            have hP : parts ps = (0, 0, 0) := by simp [parts, hB', h1', h2', h3', h4]
            have hf : Fine ps := parts_fine hs (by rw [hP])
            unfold badIns at h4
            rw [h4] at e6
            dsimp only at e0 e1 e2 e4 e6
            have e7 := li_8 ps (total ps) hb hf (List.replicate ps.length false) (by simp)
            have hI : madeAll ps = iterx (fun (f : Int) (a : List Bool) => gMades ps f a) ((ps.length : Int) - 0).toNat 0 (List.replicate ps.length false) := rfl
            rw [← hI] at e7
            rw [specFault, hP, if_neg (by simp)]
            cases k7 : madeAll ps with
            | inr r =>
              rw [k7] at e7
              obtain ⟨st, e7, g1, g2⟩ := e7
              simp only [E8, bl, code, protos] at e7
              simp (maxSteps := 10000000) -implicitDefEqProofs +contextual (disch := omega) only [e_impl_CheckShape, u_impl_CheckShape, rr_impl_CheckShape, code, protos, ↓XD, XU, refs, goneIn, Nat.beq, Nat.ble, List.isEmpty, ↓reduceIte, sevalprocAttr, e0, z1, z2, z3, e1, e2, e4, e6, e7, g1, g2]
            | inl l =>
              rw [k7] at e7
              obtain ⟨e7, hl⟩ := e7
              simp only [E8, bl, code, protos] at e7
              have e8 := li_11 ps (total ps) l hb hl
              rw [seek_from1 l (by omega)] at e8
              simp only [E8, List.cons_append, List.nil_append, bl, code, protos] at e8
              dsimp only
              cases k8 : seek (fun j => ¬nth l j = true) 1 ps.length with
              | some f =>
                rw [k8] at e8
                obtain ⟨st, e8, g1, g2⟩ := e8
                simp (maxSteps := 10000000) -implicitDefEqProofs +contextual (disch := omega) only [e_impl_CheckShape, u_impl_CheckShape, rr_impl_CheckShape, code, protos, ↓XD, XU, refs, goneIn, Nat.beq, Nat.ble, List.isEmpty, ↓reduceIte, sevalprocAttr, e0, z1, z2, z3, e1, e2, e4, e6, e7, e8, g1, g2]
              | none =>
                rw [k8] at e8
                simp (maxSteps := 10000000) -implicitDefEqProofs +contextual (disch := omega) only [e_impl_CheckShape, u_impl_CheckShape, rr_impl_CheckShape, code, protos, ↓XD, XU, refs, goneIn, Nat.beq, Nat.ble, List.isEmpty, ↓reduceIte, sevalprocAttr, e0, z1, z2, z3, e1, e2, e4, e6, e7, e8]
end Go.Proofs.Tryd.Av
end
section
attribute [local congr] ite_congr
set_option linter.unusedSimpArgs false
set_option linter.unusedVariables false
set_option maxRecDepth 10000
set_option maxHeartbeats 4000000
namespace Go.Proofs.Tryd.Av
open Go Go.Av Classical
def osl {α : Type} (f : α → List PV) : Option (List α) → PV
  | none => .nils
  | some l => .fz (l.map f)
abbrev ol {α : Type} (o : Option (List α)) : List α := o.getD []
theorem osl_some {α : Type} (f : α → List PV) (l : List α) : osl f (some l) = .fz (l.map f) := rfl
theorem lenV_osl {α : Type} (f : α → List PV) (o : Option (List α)) : lenV (osl f o) = some (.int .i64 (ol o).length) := by cases o <;> simp [osl, lenV, ol]
theorem idx_osl {α : Type} [Inhabited α] (f : α → List PV) (o : Option (List α)) (sz : Nat) (H : Heap) (k : IntKind) (i : Int) (h0 : 0 ≤ i) (h : i < (ol o).length) : indexAV sz H (osl f o) (.int k i) = if (f (nth (ol o) i)).length = sz then some (.fp (f (nth (ol o) i)) 0) else none := by
  cases o with
  | none => simp [ol] at h; omega
  | some l => exact idx_map sz H f l k i h0 h
theorem frz_osl {α : Type} (f : α → List PV) (o : Option (List α)) (d : Nat) (H : Heap) : frz (d + 1) H (osl f o) = osl f o := by cases o <;> rfl
theorem refs_osl {α : Type} (f : α → List PV) (o : Option (List α)) : refs (osl f o) = [] := by cases o <;> simp [osl, refs]
theorem isLeaf_osl {α : Type} (f : α → List PV) (o : Option (List α)) : isLeaf (osl f o) = true := by cases o <;> rfl
theorem cellsOf_osl {α : Type} (f : α → List PV) (o : Option (List α)) : cellsOf (osl f o) = [osl f o] := by cases o <;> rfl
abbrev iv (k : Int) : List PV := [.int .i64 k]
abbrev sv (s : ByteArray) : List PV := [.str s]
structure RProto where
  Name : ByteArray
  Line : Int
  Params : Int
  Rest : Bool
  Regs : Int
  Ups : Option (List Up)
  Consts : Option (List Val)
  Ins : Option (List Ins)
  Named : Option (List Nmd)
  deriving Inhabited
abbrev RProto.cells (p : RProto) : List PV := [.str p.Name, .int .i64 p.Line, .int .i64 p.Params, .bool p.Rest, .int .i64 p.Regs, osl Up.cells p.Ups, osl Val.cells p.Consts, osl Ins.cells p.Ins, osl Nmd.cells p.Named]
abbrev rcode (o : Option (List RProto)) : List PV := [osl RProto.cells o]
def rest (left t : Int) : Int := if left < t then -1 else left - t
abbrev gSub (c : Int → Int) (i : Int) (l : Int) : Int ⊕ Unit := if l < c i then .inr () else .inl (l - c i)
def sumTo (c : Int → Int) : Nat → Int → Int
  | 0, _ => 0
  | m + 1, i => c i + sumTo c m (i + 1)
theorem sumTo_nonneg {c : Int → Int} (hc : ∀ i, 0 ≤ c i) : ∀ (m : Nat) (i : Int), 0 ≤ sumTo c m i
  | 0, _ => Int.le_refl 0
  | m + 1, i => by have := hc i; have := sumTo_nonneg hc m (i + 1); rw [sumTo]; omega
theorem sub_run {c : Int → Int} (hc : ∀ i, 0 ≤ c i) : ∀ (m : Nat) (i l : Int), 0 ≤ l → iterx (gSub c) m i l = if l < sumTo c m i then .inr () else .inl (l - sumTo c m i)
  | 0, i, l, h0 => by rw [iterx, sumTo, if_neg (by omega), Int.sub_zero]
  | m + 1, i, l, h0 => by
    have h1 := hc i
    have h2 := sumTo_nonneg hc m (i + 1)
    have e : sumTo c (m + 1) i = c i + sumTo c m (i + 1) := rfl
    rw [iterx, gSub, e]
    by_cases h : l < c i
    · rw [if_pos h, if_pos (by omega)]
    · rw [if_neg h]
      dsimp only
      rw [sub_run hc m (i + 1) (l - c i) (by omega)]
      by_cases h3 : l - c i < sumTo c m (i + 1)
      · rw [if_pos h3, if_pos (by omega)]
      · rw [if_neg h3, if_neg (by omega)]; congr 1; omega
theorem sub_rest {c : Int → Int} (hc : ∀ i, 0 ≤ c i) (m : Nat) (l : Int) (h0 : 0 ≤ l) : (match iterx (gSub c) m 0 l with | .inl a => a | .inr _ => -1) = rest l (sumTo c m 0) := by
  rw [sub_run hc _ _ _ h0, rest]
  by_cases h : l < sumTo c m 0
  · rw [if_pos h, if_pos h]
  · rw [if_neg h, if_neg h]
theorem el_szUpS (o : Option (List Up)) (left : Int) (h0 : 0 ≤ left) (h1 : left ≤ 1048576) (hb : (ol o).length ≤ 9223372036854775807) : EP A n_laws_szUpS [osl Up.cells o, .int .i64 left] = some (.int .i64 (rest left (ol o).length)) := by
  have e : (left - (ol o).length < 0) = (left < (ol o).length) := by rw [eq_iff_iff]; omega
  simp (maxSteps := 10000000) -implicitDefEqProofs +contextual (disch := omega) only [e_laws_szUpS, u_laws_szUpS, rr_laws_szUpS, lenV_osl, frz_osl, ↓XD, XU, refs, goneIn, Nat.beq, Nat.ble, List.isEmpty, ↓reduceIte, sevalprocAttr]
  simp [rest, e]
theorem el_szInsS (o : Option (List Ins)) (left : Int) (h0 : 0 ≤ left) (h1 : left ≤ 1048576) (hb : (ol o).length ≤ 9223372036854775807) : EP A n_laws_szInsS [osl Ins.cells o, .int .i64 left] = some (.int .i64 (rest left (ol o).length)) := by
  have e : (left - (ol o).length < 0) = (left < (ol o).length) := by rw [eq_iff_iff]; omega
  simp (maxSteps := 10000000) -implicitDefEqProofs +contextual (disch := omega) only [e_laws_szInsS, u_laws_szInsS, rr_laws_szInsS, lenV_osl, frz_osl, ↓XD, XU, refs, goneIn, Nat.beq, Nat.ble, List.isEmpty, ↓reduceIte, sevalprocAttr]
  simp [rest, e]
theorem el_szValue (v : Val) (left : Int) (h0 : 0 ≤ left) (h1 : left ≤ 1048576) (hs : v.Str.size ≤ 9223372036854775807) : EP A n_laws_szValue [.agg v.cells, .int .i64 left] = some (.int .i64 (rest left v.Str.size)) := by
  have e : (left - v.Str.size < 0) = (left < v.Str.size) := by rw [eq_iff_iff]; omega
  simp (maxSteps := 10000000) -implicitDefEqProofs +contextual (disch := omega) only [e_laws_szValue, u_laws_szValue, rr_laws_szValue, Val.cells, ↓XD, XU, refs, goneIn, Nat.beq, Nat.ble, List.isEmpty, ↓reduceIte, sevalprocAttr]
  simp [rest, e]
theorem el_szNamed (v : Nmd) (left : Int) (h0 : 0 ≤ left) (h1 : left ≤ 1048576) (hs : v.Name.size ≤ 9223372036854775807) : EP A n_laws_szNamed [.agg v.cells, .int .i64 left] = some (.int .i64 (rest left v.Name.size)) := by
  have e : (left - v.Name.size < 0) = (left < v.Name.size) := by rw [eq_iff_iff]; omega
  simp (maxSteps := 10000000) -implicitDefEqProofs +contextual (disch := omega) only [e_laws_szNamed, u_laws_szNamed, rr_laws_szNamed, Nmd.cells, ↓XD, XU, refs, goneIn, Nat.beq, Nat.ble, List.isEmpty, ↓reduceIte, sevalprocAttr]
  simp [rest, e]
theorem lp_szValueS (o : Option (List Val)) (hb : (ol o).length ≤ 1048576) (hs : ∀ i : Int, (nth (ol o) i).Str.size ≤ 9223372036854775807) (a0 : Int) (hok0 : 0 ≤ a0 ∧ a0 ≤ 1048576) : OnSum (fun (a : Int) => EV A (.loop (B_laws_szValueS 0)) (⟨[(0, osl Val.cells o), (1, .int .i64 a0), (4, .int .i64 0), (5, .int .i64 (0))], [], [], []⟩ : St) = some (AExit.exit 0, (⟨[(0, osl Val.cells o), (1, .int .i64 a), (4, .int .i64 0), (5, .int .i64 ((ol o).length))], [], [], []⟩ : St)) ∧ 0 ≤ a ∧ a ≤ 1048576) (fun (r : Unit) => ∃ st, EV A (.loop (B_laws_szValueS 0)) (⟨[(0, osl Val.cells o), (1, .int .i64 a0), (4, .int .i64 0), (5, .int .i64 (0))], [], [], []⟩ : St) = some (.ret, st) ∧ st.per.get 4 = .int .i64 (-1)) (iterx (fun (i : Int) (a : Int) => gSub (fun k => ((nth (ol o) k).Str.size : Int)) i a) (((ol o).length : Int) - 0).toNat (0) a0) := by
  refine loop_iterq (P := A) (body := (B_laws_szValueS 0)) (fun i (a : Int) => (⟨[(0, osl Val.cells o), (1, .int .i64 a), (4, .int .i64 0), (5, .int .i64 i)], [], [], []⟩ : St)) (fun (i : Int) (a : Int) => gSub (fun k => ((nth (ol o) k).Str.size : Int)) i a) (fun i (a : Int) => 0 ≤ a ∧ a ≤ 1048576) (fun a => (AExit.exit 0, (⟨[(0, osl Val.cells o), (1, .int .i64 a), (4, .int .i64 0), (5, .int .i64 ((ol o).length))], [], [], []⟩ : St))) (fun (r : Unit) (st : St) => st.per.get 4 = .int .i64 (-1)) (0) ((ol o).length) ?_ ?_ (0) a0 (by omega) (by omega) hok0
  · intro i a hi hn hok
    have h1 := el_szValue (nth (ol o) i) a hok.1 hok.2 (hs i)
    simp only [Val.cells] at h1
    have h2 : 0 ≤ ((nth (ol o) i).Str.size : Int) := (by first | omega | exact by (try dsimp only); omega)
    rw [gSub]
    by_cases h : a < ((nth (ol o) i).Str.size : Int)
    · rw [if_pos h]
      rw [rest, if_pos h] at h1
      refine ⟨_, by (simp (maxSteps := 10000000) -implicitDefEqProofs +contextual (disch := omega) only [ub_laws_szValueS_0, rr_laws_szValueS, lenV_osl, idx_osl, frz_osl, refs_osl, Val.cells, ↓XD, XU, refs, goneIn, Nat.beq, Nat.ble, List.isEmpty, ↓reduceIte, sevalprocAttr, hn, h1]) <;> rfl, by simp [Env.get]⟩
    · rw [if_neg h]
      rw [rest, if_neg h] at h1
      have e : ¬a - ((nth (ol o) i).Str.size : Int) < 0 := by omega
      refine ⟨⟨_, by (simp (maxSteps := 10000000) -implicitDefEqProofs +contextual (disch := omega) only [ub_laws_szValueS_0, rr_laws_szValueS, lenV_osl, idx_osl, frz_osl, refs_osl, Val.cells, ↓XD, XU, refs, goneIn, Nat.beq, Nat.ble, List.isEmpty, ↓reduceIte, sevalprocAttr, hn, h1, e]) <;> rfl, by simp [St.next, trim_all]⟩, by omega⟩
  · rintro i a hi rfl hok
    refine ⟨by simp (maxSteps := 10000000) -implicitDefEqProofs +contextual (disch := omega) only [ub_laws_szValueS_0, rr_laws_szValueS, ↓XD, XU, refs, goneIn, Nat.beq, Nat.ble, List.isEmpty, ↓reduceIte, sevalprocAttr, lenV_osl, Int.lt_irrefl, hok], by simp⟩
def szVals (l : List Val) : Int := l.length + sumTo (fun k => ((nth l k).Str.size : Int)) l.length 0
theorem szVals_nonneg (l : List Val) : (l.length : Int) ≤ szVals l := by
  have := sumTo_nonneg (c := fun k => ((nth l k).Str.size : Int)) (fun k => by (try dsimp only); omega) l.length 0
  simp only [szVals]; omega
theorem el_szValueS (o : Option (List Val)) (left : Int) (h0 : 0 ≤ left) (h1 : left ≤ 1048576) (hb : (ol o).length ≤ 9223372036854775807) (hs : ∀ i : Int, (nth (ol o) i).Str.size ≤ 9223372036854775807) : EP A n_laws_szValueS [osl Val.cells o, .int .i64 left] = some (.int .i64 (rest left (szVals (ol o)))) := by
  have hc : ∀ i, 0 ≤ (fun k => ((nth (ol o) k).Str.size : Int)) i := fun k => by (try dsimp only); omega
  have hn := sumTo_nonneg hc (ol o).length 0
  rw [szVals]
  by_cases c1 : left < (ol o).length
  · have e : left - (ol o).length < 0 := by omega
    simp (maxSteps := 10000000) -implicitDefEqProofs +contextual (disch := omega) only [e_laws_szValueS, u_laws_szValueS, rr_laws_szValueS, lenV_osl, frz_osl, ↓XD, XU, refs, goneIn, Nat.beq, Nat.ble, List.isEmpty, ↓reduceIte, sevalprocAttr, e]
    simp only [rest]; rw [if_pos (by omega)]
  · have e : ¬left - (ol o).length < 0 := by omega
    have hl := lp_szValueS o (by omega) hs (left - (ol o).length) ⟨by omega, by omega⟩
    have hr := sub_rest hc (ol o).length (left - (ol o).length) (by omega)
    rw [show (((ol o).length : Int) - 0).toNat = (ol o).length by omega] at hl
    cases hi : iterx (gSub (fun k => ((nth (ol o) k).Str.size : Int))) (ol o).length 0 (left - (ol o).length) with
    | inl a =>
      rw [hi] at hl hr
      have hl := hl.1
      simp (maxSteps := 10000000) -implicitDefEqProofs +contextual (disch := omega) only [e_laws_szValueS, u_laws_szValueS, rr_laws_szValueS, lenV_osl, frz_osl, ↓XD, XU, refs, goneIn, Nat.beq, Nat.ble, List.isEmpty, ↓reduceIte, sevalprocAttr, e, hl]
      dsimp only at hr
      rw [hr]; simp only [rest]; congr 2
      split <;> split <;> omega
    | inr u =>
      rw [hi] at hl hr
      obtain ⟨st, hl, g⟩ := hl
      simp (maxSteps := 10000000) -implicitDefEqProofs +contextual (disch := omega) only [e_laws_szValueS, u_laws_szValueS, rr_laws_szValueS, lenV_osl, frz_osl, ↓XD, XU, refs, goneIn, Nat.beq, Nat.ble, List.isEmpty, ↓reduceIte, sevalprocAttr, e, hl, g]
      dsimp only at hr
      have : rest left ((ol o).length + sumTo (fun k => ((nth (ol o) k).Str.size : Int)) (ol o).length 0) = -1 := by rw [hr]; simp only [rest]; split <;> split <;> omega
      rw [this]
theorem lp_szNamedS (o : Option (List Nmd)) (hb : (ol o).length ≤ 1048576) (hs : ∀ i : Int, (nth (ol o) i).Name.size ≤ 9223372036854775807) (a0 : Int) (hok0 : 0 ≤ a0 ∧ a0 ≤ 1048576) : OnSum (fun (a : Int) => EV A (.loop (B_laws_szNamedS 0)) (⟨[(0, osl Nmd.cells o), (1, .int .i64 a0), (4, .int .i64 0), (5, .int .i64 (0))], [], [], []⟩ : St) = some (AExit.exit 0, (⟨[(0, osl Nmd.cells o), (1, .int .i64 a), (4, .int .i64 0), (5, .int .i64 ((ol o).length))], [], [], []⟩ : St)) ∧ 0 ≤ a ∧ a ≤ 1048576) (fun (r : Unit) => ∃ st, EV A (.loop (B_laws_szNamedS 0)) (⟨[(0, osl Nmd.cells o), (1, .int .i64 a0), (4, .int .i64 0), (5, .int .i64 (0))], [], [], []⟩ : St) = some (.ret, st) ∧ st.per.get 4 = .int .i64 (-1)) (iterx (fun (i : Int) (a : Int) => gSub (fun k => ((nth (ol o) k).Name.size : Int)) i a) (((ol o).length : Int) - 0).toNat (0) a0) := by
  refine loop_iterq (P := A) (body := (B_laws_szNamedS 0)) (fun i (a : Int) => (⟨[(0, osl Nmd.cells o), (1, .int .i64 a), (4, .int .i64 0), (5, .int .i64 i)], [], [], []⟩ : St)) (fun (i : Int) (a : Int) => gSub (fun k => ((nth (ol o) k).Name.size : Int)) i a) (fun i (a : Int) => 0 ≤ a ∧ a ≤ 1048576) (fun a => (AExit.exit 0, (⟨[(0, osl Nmd.cells o), (1, .int .i64 a), (4, .int .i64 0), (5, .int .i64 ((ol o).length))], [], [], []⟩ : St))) (fun (r : Unit) (st : St) => st.per.get 4 = .int .i64 (-1)) (0) ((ol o).length) ?_ ?_ (0) a0 (by omega) (by omega) hok0
  · intro i a hi hn hok
    have h1 := el_szNamed (nth (ol o) i) a hok.1 hok.2 (hs i)
    simp only [Nmd.cells] at h1
    have h2 : 0 ≤ ((nth (ol o) i).Name.size : Int) := (by first | omega | exact by (try dsimp only); omega)
    rw [gSub]
    by_cases h : a < ((nth (ol o) i).Name.size : Int)
    · rw [if_pos h]
      rw [rest, if_pos h] at h1
      refine ⟨_, by (simp (maxSteps := 10000000) -implicitDefEqProofs +contextual (disch := omega) only [ub_laws_szNamedS_0, rr_laws_szNamedS, lenV_osl, idx_osl, frz_osl, refs_osl, Nmd.cells, ↓XD, XU, refs, goneIn, Nat.beq, Nat.ble, List.isEmpty, ↓reduceIte, sevalprocAttr, hn, h1]) <;> rfl, by simp [Env.get]⟩
    · rw [if_neg h]
      rw [rest, if_neg h] at h1
      have e : ¬a - ((nth (ol o) i).Name.size : Int) < 0 := by omega
      refine ⟨⟨_, by (simp (maxSteps := 10000000) -implicitDefEqProofs +contextual (disch := omega) only [ub_laws_szNamedS_0, rr_laws_szNamedS, lenV_osl, idx_osl, frz_osl, refs_osl, Nmd.cells, ↓XD, XU, refs, goneIn, Nat.beq, Nat.ble, List.isEmpty, ↓reduceIte, sevalprocAttr, hn, h1, e]) <;> rfl, by simp [St.next, trim_all]⟩, by omega⟩
  · rintro i a hi rfl hok
    refine ⟨by simp (maxSteps := 10000000) -implicitDefEqProofs +contextual (disch := omega) only [ub_laws_szNamedS_0, rr_laws_szNamedS, ↓XD, XU, refs, goneIn, Nat.beq, Nat.ble, List.isEmpty, ↓reduceIte, sevalprocAttr, lenV_osl, Int.lt_irrefl, hok], by simp⟩
def szNmds (l : List Nmd) : Int := l.length + sumTo (fun k => ((nth l k).Name.size : Int)) l.length 0
theorem szNmds_nonneg (l : List Nmd) : (l.length : Int) ≤ szNmds l := by
  have := sumTo_nonneg (c := fun k => ((nth l k).Name.size : Int)) (fun k => by (try dsimp only); omega) l.length 0
  simp only [szNmds]; omega
theorem el_szNamedS (o : Option (List Nmd)) (left : Int) (h0 : 0 ≤ left) (h1 : left ≤ 1048576) (hb : (ol o).length ≤ 9223372036854775807) (hs : ∀ i : Int, (nth (ol o) i).Name.size ≤ 9223372036854775807) : EP A n_laws_szNamedS [osl Nmd.cells o, .int .i64 left] = some (.int .i64 (rest left (szNmds (ol o)))) := by
  have hc : ∀ i, 0 ≤ (fun k => ((nth (ol o) k).Name.size : Int)) i := fun k => by (try dsimp only); omega
  have hn := sumTo_nonneg hc (ol o).length 0
  rw [szNmds]
  by_cases c1 : left < (ol o).length
  · have e : left - (ol o).length < 0 := by omega
    simp (maxSteps := 10000000) -implicitDefEqProofs +contextual (disch := omega) only [e_laws_szNamedS, u_laws_szNamedS, rr_laws_szNamedS, lenV_osl, frz_osl, ↓XD, XU, refs, goneIn, Nat.beq, Nat.ble, List.isEmpty, ↓reduceIte, sevalprocAttr, e]
    simp only [rest]; rw [if_pos (by omega)]
  · have e : ¬left - (ol o).length < 0 := by omega
    have hl := lp_szNamedS o (by omega) hs (left - (ol o).length) ⟨by omega, by omega⟩
    have hr := sub_rest hc (ol o).length (left - (ol o).length) (by omega)
    rw [show (((ol o).length : Int) - 0).toNat = (ol o).length by omega] at hl
    cases hi : iterx (gSub (fun k => ((nth (ol o) k).Name.size : Int))) (ol o).length 0 (left - (ol o).length) with
    | inl a =>
      rw [hi] at hl hr
      have hl := hl.1
      simp (maxSteps := 10000000) -implicitDefEqProofs +contextual (disch := omega) only [e_laws_szNamedS, u_laws_szNamedS, rr_laws_szNamedS, lenV_osl, frz_osl, ↓XD, XU, refs, goneIn, Nat.beq, Nat.ble, List.isEmpty, ↓reduceIte, sevalprocAttr, e, hl]
      dsimp only at hr
      rw [hr]; simp only [rest]; congr 2
      split <;> split <;> omega
    | inr u =>
      rw [hi] at hl hr
      obtain ⟨st, hl, g⟩ := hl
      simp (maxSteps := 10000000) -implicitDefEqProofs +contextual (disch := omega) only [e_laws_szNamedS, u_laws_szNamedS, rr_laws_szNamedS, lenV_osl, frz_osl, ↓XD, XU, refs, goneIn, Nat.beq, Nat.ble, List.isEmpty, ↓reduceIte, sevalprocAttr, e, hl, g]
      dsimp only at hr
      have : rest left ((ol o).length + sumTo (fun k => ((nth (ol o) k).Name.size : Int)) (ol o).length 0) = -1 := by rw [hr]; simp only [rest]; split <;> split <;> omega
      rw [this]
structure ProtoB (f : RProto) : Prop where
  s : f.Name.size ≤ 9223372036854775807
  u : (ol f.Ups).length ≤ 9223372036854775807
  c : (ol f.Consts).length ≤ 9223372036854775807
  cs : ∀ i : Int, (nth (ol f.Consts) i).Str.size ≤ 9223372036854775807
  i : (ol f.Ins).length ≤ 9223372036854775807
  n : (ol f.Named).length ≤ 9223372036854775807
  ns : ∀ i : Int, (nth (ol f.Named) i).Name.size ≤ 9223372036854775807
def szProto (f : RProto) : Int := f.Name.size + (ol f.Ups).length + szVals (ol f.Consts) + (ol f.Ins).length + szNmds (ol f.Named)
theorem szProto_nonneg (f : RProto) : 0 ≤ szProto f := by
  have := szVals_nonneg (ol f.Consts); have := szNmds_nonneg (ol f.Named)
  simp only [szProto]; omega
theorem el_szProto (f : RProto) (left : Int) (h0 : 0 ≤ left) (h1 : left ≤ 1048576) (hb : ProtoB f) : EP A n_laws_szProto [.agg f.cells, .int .i64 left] = some (.int .i64 (rest left (szProto f))) := by
  have n1 := szVals_nonneg (ol f.Consts)
  have n2 := szNmds_nonneg (ol f.Named)
  have b1 := hb.s
  rw [szProto]
  by_cases c0 : left < f.Name.size
  · have e : left - f.Name.size < 0 := by omega
    simp (maxSteps := 10000000) -implicitDefEqProofs +contextual (disch := omega) only [e_laws_szProto, u_laws_szProto, rr_laws_szProto, RProto.cells, lenV_osl, frz_osl, refs_osl, isLeaf_osl, ↓XD, XU, refs, goneIn, Nat.beq, Nat.ble, List.isEmpty, ↓reduceIte, sevalprocAttr, e]
    simp only [rest]; rw [if_pos (by omega)]
  · have e0 : ¬left - f.Name.size < 0 := by omega
    have g1 := el_szUpS f.Ups (left - f.Name.size) (by omega) (by omega) hb.u
    by_cases c1 : left - f.Name.size < (ol f.Ups).length
    · rw [rest, if_pos c1] at g1
      simp (maxSteps := 10000000) -implicitDefEqProofs +contextual (disch := omega) only [e_laws_szProto, u_laws_szProto, rr_laws_szProto, RProto.cells, lenV_osl, frz_osl, refs_osl, isLeaf_osl, ↓XD, XU, refs, goneIn, Nat.beq, Nat.ble, List.isEmpty, ↓reduceIte, sevalprocAttr, e0, g1]
      simp only [rest]; rw [if_pos (by omega)]
    · rw [rest, if_neg c1] at g1
      have e1 : ¬left - f.Name.size - (ol f.Ups).length < 0 := by omega
      have g2 := el_szValueS f.Consts (left - f.Name.size - (ol f.Ups).length) (by omega) (by omega) hb.c hb.cs
      by_cases c2 : left - f.Name.size - (ol f.Ups).length < szVals (ol f.Consts)
      · rw [rest, if_pos c2] at g2
        simp (maxSteps := 10000000) -implicitDefEqProofs +contextual (disch := omega) only [e_laws_szProto, u_laws_szProto, rr_laws_szProto, RProto.cells, lenV_osl, frz_osl, refs_osl, isLeaf_osl, ↓XD, XU, refs, goneIn, Nat.beq, Nat.ble, List.isEmpty, ↓reduceIte, sevalprocAttr, e0, e1, g1, g2]
        simp only [rest]; rw [if_pos (by omega)]
      · rw [rest, if_neg c2] at g2
        have e2 : ¬left - f.Name.size - (ol f.Ups).length - szVals (ol f.Consts) < 0 := by omega
        have g3 := el_szInsS f.Ins (left - f.Name.size - (ol f.Ups).length - szVals (ol f.Consts)) (by omega) (by omega) hb.i
        by_cases c3 : left - f.Name.size - (ol f.Ups).length - szVals (ol f.Consts) < (ol f.Ins).length
        · rw [rest, if_pos c3] at g3
          simp (maxSteps := 10000000) -implicitDefEqProofs +contextual (disch := omega) only [e_laws_szProto, u_laws_szProto, rr_laws_szProto, RProto.cells, lenV_osl, frz_osl, refs_osl, isLeaf_osl, ↓XD, XU, refs, goneIn, Nat.beq, Nat.ble, List.isEmpty, ↓reduceIte, sevalprocAttr, e0, e1, e2, g1, g2, g3]
          simp only [rest]; rw [if_pos (by omega)]
        · rw [rest, if_neg c3] at g3
          have e3 : ¬left - f.Name.size - (ol f.Ups).length - szVals (ol f.Consts) - (ol f.Ins).length < 0 := by omega
          have g4 := el_szNamedS f.Named (left - f.Name.size - (ol f.Ups).length - szVals (ol f.Consts) - (ol f.Ins).length) (by omega) (by omega) hb.n hb.ns
          by_cases c4 : left - f.Name.size - (ol f.Ups).length - szVals (ol f.Consts) - (ol f.Ins).length < szNmds (ol f.Named)
          · rw [rest, if_pos c4] at g4
            simp (maxSteps := 10000000) -implicitDefEqProofs +contextual (disch := omega) only [e_laws_szProto, u_laws_szProto, rr_laws_szProto, RProto.cells, lenV_osl, frz_osl, refs_osl, isLeaf_osl, ↓XD, XU, refs, goneIn, Nat.beq, Nat.ble, List.isEmpty, ↓reduceIte, sevalprocAttr, e0, e1, e2, e3, g1, g2, g3, g4]
            simp only [rest]; rw [if_pos (by omega)]
          · rw [rest, if_neg c4] at g4
            have e4 : ¬left - f.Name.size - (ol f.Ups).length - szVals (ol f.Consts) - (ol f.Ins).length - szNmds (ol f.Named) < 0 := by omega
            simp (maxSteps := 10000000) -implicitDefEqProofs +contextual (disch := omega) only [e_laws_szProto, u_laws_szProto, rr_laws_szProto, RProto.cells, lenV_osl, frz_osl, refs_osl, isLeaf_osl, ↓XD, XU, refs, goneIn, Nat.beq, Nat.ble, List.isEmpty, ↓reduceIte, sevalprocAttr, e0, e1, e2, e3, e4, g1, g2, g3, g4]
            simp only [rest]; rw [if_neg (by omega)]; congr 2; omega
theorem lp_szProtoS (o : Option (List RProto)) (hb : (ol o).length ≤ 1048576) (hs : ∀ i : Int, ProtoB (nth (ol o) i)) (a0 : Int) (hok0 : 0 ≤ a0 ∧ a0 ≤ 1048576) : OnSum (fun (a : Int) => EV A (.loop (B_laws_szProtoS 0)) (⟨[(0, osl RProto.cells o), (1, .int .i64 a0), (4, .int .i64 0), (5, .int .i64 (0))], [], [], []⟩ : St) = some (AExit.exit 0, (⟨[(0, osl RProto.cells o), (1, .int .i64 a), (4, .int .i64 0), (5, .int .i64 ((ol o).length))], [], [], []⟩ : St)) ∧ 0 ≤ a ∧ a ≤ 1048576) (fun (r : Unit) => ∃ st, EV A (.loop (B_laws_szProtoS 0)) (⟨[(0, osl RProto.cells o), (1, .int .i64 a0), (4, .int .i64 0), (5, .int .i64 (0))], [], [], []⟩ : St) = some (.ret, st) ∧ st.per.get 4 = .int .i64 (-1)) (iterx (fun (i : Int) (a : Int) => gSub (fun k => szProto (nth (ol o) k)) i a) (((ol o).length : Int) - 0).toNat (0) a0) := by
  refine loop_iterq (P := A) (body := (B_laws_szProtoS 0)) (fun i (a : Int) => (⟨[(0, osl RProto.cells o), (1, .int .i64 a), (4, .int .i64 0), (5, .int .i64 i)], [], [], []⟩ : St)) (fun (i : Int) (a : Int) => gSub (fun k => szProto (nth (ol o) k)) i a) (fun i (a : Int) => 0 ≤ a ∧ a ≤ 1048576) (fun a => (AExit.exit 0, (⟨[(0, osl RProto.cells o), (1, .int .i64 a), (4, .int .i64 0), (5, .int .i64 ((ol o).length))], [], [], []⟩ : St))) (fun (r : Unit) (st : St) => st.per.get 4 = .int .i64 (-1)) (0) ((ol o).length) ?_ ?_ (0) a0 (by omega) (by omega) hok0
  · intro i a hi hn hok
    have h1 := el_szProto (nth (ol o) i) a hok.1 hok.2 (hs i)
    simp only [RProto.cells] at h1
    have h2 : 0 ≤ szProto (nth (ol o) i) := (by first | omega | exact szProto_nonneg _)
    rw [gSub]
    by_cases h : a < szProto (nth (ol o) i)
    · rw [if_pos h]
      rw [rest, if_pos h] at h1
      refine ⟨_, by (simp (maxSteps := 10000000) -implicitDefEqProofs +contextual (disch := omega) only [ub_laws_szProtoS_0, rr_laws_szProtoS, lenV_osl, idx_osl, frz_osl, refs_osl, RProto.cells, ↓XD, XU, refs, goneIn, Nat.beq, Nat.ble, List.isEmpty, ↓reduceIte, sevalprocAttr, hn, h1]) <;> rfl, by simp [Env.get]⟩
    · rw [if_neg h]
      rw [rest, if_neg h] at h1
      have e : ¬a - szProto (nth (ol o) i) < 0 := by omega
      refine ⟨⟨_, by (simp (maxSteps := 10000000) -implicitDefEqProofs +contextual (disch := omega) only [ub_laws_szProtoS_0, rr_laws_szProtoS, lenV_osl, idx_osl, frz_osl, refs_osl, RProto.cells, ↓XD, XU, refs, goneIn, Nat.beq, Nat.ble, List.isEmpty, ↓reduceIte, sevalprocAttr, hn, h1, e]) <;> rfl, by simp [St.next, trim_all]⟩, by omega⟩
  · rintro i a hi rfl hok
    refine ⟨by simp (maxSteps := 10000000) -implicitDefEqProofs +contextual (disch := omega) only [ub_laws_szProtoS_0, rr_laws_szProtoS, ↓XD, XU, refs, goneIn, Nat.beq, Nat.ble, List.isEmpty, ↓reduceIte, sevalprocAttr, lenV_osl, Int.lt_irrefl, hok], by simp⟩
def szProtos (l : List RProto) : Int := l.length + sumTo (fun k => szProto (nth l k)) l.length 0
theorem szProtos_nonneg (l : List RProto) : (l.length : Int) ≤ szProtos l := by
  have := sumTo_nonneg (c := fun k => szProto (nth l k)) (fun k => szProto_nonneg _) l.length 0
  simp only [szProtos]; omega
theorem el_szProtoS (o : Option (List RProto)) (left : Int) (h0 : 0 ≤ left) (h1 : left ≤ 1048576) (hb : (ol o).length ≤ 9223372036854775807) (hs : ∀ i : Int, ProtoB (nth (ol o) i)) : EP A n_laws_szProtoS [osl RProto.cells o, .int .i64 left] = some (.int .i64 (rest left (szProtos (ol o)))) := by
  have hc : ∀ i, 0 ≤ (fun k => szProto (nth (ol o) k)) i := fun k => szProto_nonneg _
  have hn := sumTo_nonneg hc (ol o).length 0
  rw [szProtos]
  by_cases c1 : left < (ol o).length
  · have e : left - (ol o).length < 0 := by omega
    simp (maxSteps := 10000000) -implicitDefEqProofs +contextual (disch := omega) only [e_laws_szProtoS, u_laws_szProtoS, rr_laws_szProtoS, lenV_osl, frz_osl, ↓XD, XU, refs, goneIn, Nat.beq, Nat.ble, List.isEmpty, ↓reduceIte, sevalprocAttr, e]
    simp only [rest]; rw [if_pos (by omega)]
  · have e : ¬left - (ol o).length < 0 := by omega
    have hl := lp_szProtoS o (by omega) hs (left - (ol o).length) ⟨by omega, by omega⟩
    have hr := sub_rest hc (ol o).length (left - (ol o).length) (by omega)
    rw [show (((ol o).length : Int) - 0).toNat = (ol o).length by omega] at hl
    cases hi : iterx (gSub (fun k => szProto (nth (ol o) k))) (ol o).length 0 (left - (ol o).length) with
    | inl a =>
      rw [hi] at hl hr
      have hl := hl.1
      simp (maxSteps := 10000000) -implicitDefEqProofs +contextual (disch := omega) only [e_laws_szProtoS, u_laws_szProtoS, rr_laws_szProtoS, lenV_osl, frz_osl, ↓XD, XU, refs, goneIn, Nat.beq, Nat.ble, List.isEmpty, ↓reduceIte, sevalprocAttr, e, hl]
      dsimp only at hr
      rw [hr]; simp only [rest]; congr 2
      split <;> split <;> omega
    | inr u =>
      rw [hi] at hl hr
      obtain ⟨st, hl, g⟩ := hl
      simp (maxSteps := 10000000) -implicitDefEqProofs +contextual (disch := omega) only [e_laws_szProtoS, u_laws_szProtoS, rr_laws_szProtoS, lenV_osl, frz_osl, ↓XD, XU, refs, goneIn, Nat.beq, Nat.ble, List.isEmpty, ↓reduceIte, sevalprocAttr, e, hl, g]
      dsimp only at hr
      have : rest left ((ol o).length + sumTo (fun k => szProto (nth (ol o) k)) (ol o).length 0) = -1 := by rw [hr]; simp only [rest]; split <;> split <;> omega
      rw [this]
theorem el_szCode (o : Option (List RProto)) (hb : (ol o).length ≤ 9223372036854775807) (hs : ∀ i : Int, ProtoB (nth (ol o) i)) : EP A n_laws_szCode [.agg (rcode o), .int .i64 1048576] = some (.int .i64 (rest 1048576 (szProtos (ol o)))) := by
  have g := el_szProtoS o 1048576 (by omega) (by omega) hb hs
  by_cases c : (1048576 : Int) < szProtos (ol o)
  · rw [rest, if_pos c] at g ⊢
    simp (maxSteps := 10000000) -implicitDefEqProofs +contextual (disch := omega) only [e_laws_szCode, u_laws_szCode, rr_laws_szCode, rcode, lenV_osl, frz_osl, refs_osl, isLeaf_osl, ↓XD, XU, refs, goneIn, Nat.beq, Nat.ble, List.isEmpty, ↓reduceIte, sevalprocAttr, g]
  · rw [rest, if_neg c] at g ⊢
    have e : ¬1048576 - szProtos (ol o) < 0 := by omega
    simp (maxSteps := 10000000) -implicitDefEqProofs +contextual (disch := omega) only [e_laws_szCode, u_laws_szCode, rr_laws_szCode, rcode, lenV_osl, frz_osl, refs_osl, isLeaf_osl, ↓XD, XU, refs, goneIn, Nat.beq, Nat.ble, List.isEmpty, ↓reduceIte, sevalprocAttr, g, e]
end Go.Proofs.Tryd.Av
end
section
attribute [local congr] ite_congr
set_option linter.unusedSimpArgs false
set_option linter.unusedVariables false
set_option maxRecDepth 10000
set_option maxHeartbeats 4000000
namespace Go.Proofs.Tryd.Av
open Go Go.Av Classical
theorem nth_get {α : Type} [Inhabited α] {l : List α} {i : Int} (h0 : 0 ≤ i) (h1 : i < l.length) : nth l i = l[i.toNat]'(by omega) := by
  have := nth_some h0 h1
  rw [List.getElem?_eq_getElem (by omega)] at this
  exact (Option.some.inj this).symm
theorem nth_mem {α : Type} [Inhabited α] {l : List α} {i : Int} (h0 : 0 ≤ i) (h1 : i < l.length) : nth l i ∈ l := by
  rw [nth_get h0 h1]; exact List.getElem_mem _
theorem iter_map {α : Type} [Inhabited α] (l : List α) (g : α → α) (z : α) : iter (fun (i : Int) (a : List α) => a.set i.toNat (g (nth l i))) ((l.length : Int) - 0).toNat 0 (List.replicate l.length z) = l.map g := by
  have H : ∀ (m : Nat) (i : Int) (a : List α), 0 ≤ i → i + m = l.length → a.length = l.length → (∀ k : Int, 0 ≤ k → k < i → nth a k = g (nth l k)) → (iter (fun (i : Int) (a : List α) => a.set i.toNat (g (nth l i))) m i a).length = l.length ∧ ∀ k : Int, 0 ≤ k → k < l.length → nth (iter (fun (i : Int) (a : List α) => a.set i.toNat (g (nth l i))) m i a) k = g (nth l k) := by
    intro m
    induction m with
    | zero => intro i a h0 h1 h2 h3; exact ⟨h2, fun k k0 k1 => h3 k k0 (by omega)⟩
    | succ m ih =>
      intro i a h0 h1 h2 h3
      refine ih (i + 1) _ (by omega) (by omega) (by simpa using h2) fun k k0 k1 => ?_
      rw [nth_set h0 (by omega) k0]
      by_cases h : i = k
      · rw [if_pos h, h]
      · rw [if_neg h]; exact h3 k k0 (by omega)
  obtain ⟨h1, h2⟩ := H ((l.length : Int) - 0).toNat 0 (List.replicate l.length z) (by omega) (by omega) (by simp) (fun k k0 k1 => by omega)
  refine nth_ext (by simpa using h1) fun k k0 k1 => ?_
  rw [h1] at k1
  rw [h2 k k0 k1, nth_get k0 k1, nth_get k0 (by simpa using k1)]
  simp
theorem el_toUp (u : Up) : EP A n_laws_toUp [.agg u.cells] = some (.agg u.cells) := by
  simp (maxSteps := 10000000) -implicitDefEqProofs +contextual (disch := omega) only [e_laws_toUp, u_laws_toUp, rr_laws_toUp, Up.cells, ↓XD, XU, refs, goneIn, Nat.beq, Nat.ble, List.isEmpty, ↓reduceIte, sevalprocAttr]
theorem set_up (l : List Up) (i : Nat) (x0 : Bool) (x1 : Int) : (l.map Up.cells).set i [.bool x0, .int .i64 x1] = (l.set i ⟨x0, x1⟩).map Up.cells := by rw [List.map_set]
theorem rep_up (n : Nat) : List.replicate n [PV.bool false, .int .i64 0] = (List.replicate n (⟨false, 0⟩ : Up)).map Up.cells := by rw [List.map_replicate]
theorem frzS_up (xs : List Up) (d : Nat) (H : Heap) (len tot s : Nat) (h1 : len = xs.length) (h2 : tot = xs.length) : frzS (d + 1) H 0 len tot (some (.cells s (xs.map Up.cells))) = .fz (xs.map Up.cells) := frzS_map _ xs _ H len tot s (fun _ _ => rfl) h1 h2
theorem lp_toUp (o : Option (List Up)) (hb : (ol o).length ≤ 1048576) (a0 : List Up) (hok0 : a0.length = (ol o).length) : EV A (.loop (B_laws_toUpS 0)) (⟨[(0, osl Up.cells o), (2, .nils), (3, .sl 0 0 (ol o).length (ol o).length), (4, .int .i64 (0))], [], [.cells 2 (a0.map Up.cells)], []⟩ : St) = some (AExit.exit 0, (⟨[(0, osl Up.cells o), (2, .nils), (3, .sl 0 0 (ol o).length (ol o).length), (4, .int .i64 ((ol o).length))], [], [.cells 2 ((iter (fun (i : Int) (a : List Up) => a.set i.toNat (nth (ol o) i)) (((ol o).length : Int) - 0).toNat (0) a0).map Up.cells)], []⟩ : St)) ∧ (iter (fun (i : Int) (a : List Up) => a.set i.toNat (nth (ol o) i)) (((ol o).length : Int) - 0).toNat (0) a0).length = (ol o).length := by
  refine loop_iter (fun i (a : List Up) => (⟨[(0, osl Up.cells o), (2, .nils), (3, .sl 0 0 (ol o).length (ol o).length), (4, .int .i64 i)], [], [.cells 2 (a.map Up.cells)], []⟩ : St)) (fun (i : Int) (a : List Up) => a.set i.toNat (nth (ol o) i)) (fun i (a : List Up) => a.length = (ol o).length) (fun a => (AExit.exit 0, (⟨[(0, osl Up.cells o), (2, .nils), (3, .sl 0 0 (ol o).length (ol o).length), (4, .int .i64 ((ol o).length))], [], [.cells 2 (a.map Up.cells)], []⟩ : St))) (0) ((ol o).length) ?_ ?_ (0) a0 (by omega) (by omega) hok0
  · intro i a hi hn hok
    refine ⟨⟨_, by simp (maxSteps := 10000000) -implicitDefEqProofs +contextual (disch := omega) only [ub_laws_toUpS_0, rr_laws_toUpS, ↓XD, XU, refs, goneIn, Nat.beq, Nat.ble, List.isEmpty, ↓reduceIte, sevalprocAttr, lenV_osl, idx_osl, Up.cells, el_toUp, set_up, hn, hok]; rfl, by first | (simp [St.next, trim_all]; done) | (simp [St.next, trim_all]; omega) | (simp [St.next, trim, bare, refsL, refs]; done)⟩, by simp; omega⟩
  · rintro i a hi rfl hok
    refine ⟨by simp (maxSteps := 10000000) -implicitDefEqProofs +contextual (disch := omega) only [ub_laws_toUpS_0, rr_laws_toUpS, ↓XD, XU, refs, goneIn, Nat.beq, Nat.ble, List.isEmpty, ↓reduceIte, sevalprocAttr, lenV_osl, idx_osl, Up.cells, el_toUp, set_up, Int.lt_irrefl, hok], by simp⟩
theorem el_toUpS (o : Option (List Up)) (hb : (ol o).length ≤ 1048576) : EP A n_laws_toUpS [osl Up.cells o] = some (osl Up.cells (some (ol o))) := by
  have hl := (lp_toUp o hb (List.replicate (ol o).length ⟨false, 0⟩) (by simp)).1
  have e := iter_map (ol o) id ⟨false, 0⟩
  simp only [id_eq, List.map_id] at e
  rw [e] at hl
  simp (maxSteps := 10000000) -implicitDefEqProofs +contextual (disch := omega) only [e_laws_toUpS, u_laws_toUpS, rr_laws_toUpS, lenV_osl, frz_osl, osl_some, rep_up, Up.cells, ↓XD, XU, refs, goneIn, Nat.beq, Nat.ble, List.isEmpty, ↓reduceIte, sevalprocAttr, hl]
  try rw [frzS_up _ _ _ _ _ _ (by simp) (by simp)]
theorem el_toValue (u : Val) : EP A n_laws_toValue [.agg u.cells] = some (.agg u.cells) := by
  simp (maxSteps := 10000000) -implicitDefEqProofs +contextual (disch := omega) only [e_laws_toValue, u_laws_toValue, rr_laws_toValue, Val.cells, ↓XD, XU, refs, goneIn, Nat.beq, Nat.ble, List.isEmpty, ↓reduceIte, sevalprocAttr]
theorem set_val (l : List Val) (i : Nat) (x0 : Int) (x1 : Int) (x2 : Nat) (x3 : ByteArray) (x4 : Int) : (l.map Val.cells).set i [.int .i64 x0, .int .i64 x1, .flt .f64 x2, .str x3, .int .i64 x4] = (l.set i ⟨x0, x1, x2, x3, x4⟩).map Val.cells := by rw [List.map_set]
theorem rep_val (n : Nat) : List.replicate n [PV.int .i64 0, .int .i64 0, .flt .f64 0, .str ⟨#[]⟩, .int .i64 0] = (List.replicate n (⟨0, 0, 0, ⟨#[]⟩, 0⟩ : Val)).map Val.cells := by rw [List.map_replicate]
theorem frzS_val (xs : List Val) (d : Nat) (H : Heap) (len tot s : Nat) (h1 : len = xs.length) (h2 : tot = xs.length) : frzS (d + 1) H 0 len tot (some (.cells s (xs.map Val.cells))) = .fz (xs.map Val.cells) := frzS_map _ xs _ H len tot s (fun _ _ => rfl) h1 h2
theorem lp_toValue (o : Option (List Val)) (hb : (ol o).length ≤ 1048576) (a0 : List Val) (hok0 : a0.length = (ol o).length) : EV A (.loop (B_laws_toValueS 0)) (⟨[(0, osl Val.cells o), (2, .nils), (3, .sl 0 0 (ol o).length (ol o).length), (4, .int .i64 (0))], [], [.cells 5 (a0.map Val.cells)], []⟩ : St) = some (AExit.exit 0, (⟨[(0, osl Val.cells o), (2, .nils), (3, .sl 0 0 (ol o).length (ol o).length), (4, .int .i64 ((ol o).length))], [], [.cells 5 ((iter (fun (i : Int) (a : List Val) => a.set i.toNat (nth (ol o) i)) (((ol o).length : Int) - 0).toNat (0) a0).map Val.cells)], []⟩ : St)) ∧ (iter (fun (i : Int) (a : List Val) => a.set i.toNat (nth (ol o) i)) (((ol o).length : Int) - 0).toNat (0) a0).length = (ol o).length := by
  refine loop_iter (fun i (a : List Val) => (⟨[(0, osl Val.cells o), (2, .nils), (3, .sl 0 0 (ol o).length (ol o).length), (4, .int .i64 i)], [], [.cells 5 (a.map Val.cells)], []⟩ : St)) (fun (i : Int) (a : List Val) => a.set i.toNat (nth (ol o) i)) (fun i (a : List Val) => a.length = (ol o).length) (fun a => (AExit.exit 0, (⟨[(0, osl Val.cells o), (2, .nils), (3, .sl 0 0 (ol o).length (ol o).length), (4, .int .i64 ((ol o).length))], [], [.cells 5 (a.map Val.cells)], []⟩ : St))) (0) ((ol o).length) ?_ ?_ (0) a0 (by omega) (by omega) hok0
  · intro i a hi hn hok
    refine ⟨⟨_, by simp (maxSteps := 10000000) -implicitDefEqProofs +contextual (disch := omega) only [ub_laws_toValueS_0, rr_laws_toValueS, ↓XD, XU, refs, goneIn, Nat.beq, Nat.ble, List.isEmpty, ↓reduceIte, sevalprocAttr, lenV_osl, idx_osl, Val.cells, el_toValue, set_val, hn, hok]; rfl, by first | (simp [St.next, trim_all]; done) | (simp [St.next, trim_all]; omega) | (simp [St.next, trim, bare, refsL, refs]; done)⟩, by simp; omega⟩
  · rintro i a hi rfl hok
    refine ⟨by simp (maxSteps := 10000000) -implicitDefEqProofs +contextual (disch := omega) only [ub_laws_toValueS_0, rr_laws_toValueS, ↓XD, XU, refs, goneIn, Nat.beq, Nat.ble, List.isEmpty, ↓reduceIte, sevalprocAttr, lenV_osl, idx_osl, Val.cells, el_toValue, set_val, Int.lt_irrefl, hok], by simp⟩
theorem el_toValueS (o : Option (List Val)) (hb : (ol o).length ≤ 1048576) : EP A n_laws_toValueS [osl Val.cells o] = some (osl Val.cells (some (ol o))) := by
  have hl := (lp_toValue o hb (List.replicate (ol o).length ⟨0, 0, 0, ⟨#[]⟩, 0⟩) (by simp)).1
  have e := iter_map (ol o) id ⟨0, 0, 0, ⟨#[]⟩, 0⟩
  simp only [id_eq, List.map_id] at e
  rw [e] at hl
  simp (maxSteps := 10000000) -implicitDefEqProofs +contextual (disch := omega) only [e_laws_toValueS, u_laws_toValueS, rr_laws_toValueS, lenV_osl, frz_osl, osl_some, rep_val, Val.cells, ↓XD, XU, refs, goneIn, Nat.beq, Nat.ble, List.isEmpty, ↓reduceIte, sevalprocAttr, hl]
  try rw [frzS_val _ _ _ _ _ _ (by simp) (by simp)]
theorem el_toIns (u : Ins) : EP A n_laws_toIns [.agg u.cells] = some (.agg u.cells) := by
  simp (maxSteps := 10000000) -implicitDefEqProofs +contextual (disch := omega) only [e_laws_toIns, u_laws_toIns, rr_laws_toIns, Ins.cells, ↓XD, XU, refs, goneIn, Nat.beq, Nat.ble, List.isEmpty, ↓reduceIte, sevalprocAttr]
theorem set_ins (l : List Ins) (i : Nat) (x0 : Int) (x1 : Int) (x2 : Int) (x3 : Int) (x4 : Int) : (l.map Ins.cells).set i [.int .i64 x0, .int .i64 x1, .int .i64 x2, .int .i64 x3, .int .i64 x4] = (l.set i ⟨x0, x1, x2, x3, x4⟩).map Ins.cells := by rw [List.map_set]
theorem rep_ins (n : Nat) : List.replicate n [PV.int .i64 0, .int .i64 0, .int .i64 0, .int .i64 0, .int .i64 0] = (List.replicate n (⟨0, 0, 0, 0, 0⟩ : Ins)).map Ins.cells := by rw [List.map_replicate]
theorem frzS_ins (xs : List Ins) (d : Nat) (H : Heap) (len tot s : Nat) (h1 : len = xs.length) (h2 : tot = xs.length) : frzS (d + 1) H 0 len tot (some (.cells s (xs.map Ins.cells))) = .fz (xs.map Ins.cells) := frzS_map _ xs _ H len tot s (fun _ _ => rfl) h1 h2
theorem lp_toIns (o : Option (List Ins)) (hb : (ol o).length ≤ 1048576) (a0 : List Ins) (hok0 : a0.length = (ol o).length) : EV A (.loop (B_laws_toInsS 0)) (⟨[(0, osl Ins.cells o), (2, .nils), (3, .sl 0 0 (ol o).length (ol o).length), (4, .int .i64 (0))], [], [.cells 5 (a0.map Ins.cells)], []⟩ : St) = some (AExit.exit 0, (⟨[(0, osl Ins.cells o), (2, .nils), (3, .sl 0 0 (ol o).length (ol o).length), (4, .int .i64 ((ol o).length))], [], [.cells 5 ((iter (fun (i : Int) (a : List Ins) => a.set i.toNat (nth (ol o) i)) (((ol o).length : Int) - 0).toNat (0) a0).map Ins.cells)], []⟩ : St)) ∧ (iter (fun (i : Int) (a : List Ins) => a.set i.toNat (nth (ol o) i)) (((ol o).length : Int) - 0).toNat (0) a0).length = (ol o).length := by
  refine loop_iter (fun i (a : List Ins) => (⟨[(0, osl Ins.cells o), (2, .nils), (3, .sl 0 0 (ol o).length (ol o).length), (4, .int .i64 i)], [], [.cells 5 (a.map Ins.cells)], []⟩ : St)) (fun (i : Int) (a : List Ins) => a.set i.toNat (nth (ol o) i)) (fun i (a : List Ins) => a.length = (ol o).length) (fun a => (AExit.exit 0, (⟨[(0, osl Ins.cells o), (2, .nils), (3, .sl 0 0 (ol o).length (ol o).length), (4, .int .i64 ((ol o).length))], [], [.cells 5 (a.map Ins.cells)], []⟩ : St))) (0) ((ol o).length) ?_ ?_ (0) a0 (by omega) (by omega) hok0
  · intro i a hi hn hok
    refine ⟨⟨_, by simp (maxSteps := 10000000) -implicitDefEqProofs +contextual (disch := omega) only [ub_laws_toInsS_0, rr_laws_toInsS, ↓XD, XU, refs, goneIn, Nat.beq, Nat.ble, List.isEmpty, ↓reduceIte, sevalprocAttr, lenV_osl, idx_osl, Ins.cells, el_toIns, set_ins, hn, hok]; rfl, by first | (simp [St.next, trim_all]; done) | (simp [St.next, trim_all]; omega) | (simp [St.next, trim, bare, refsL, refs]; done)⟩, by simp; omega⟩
  · rintro i a hi rfl hok
    refine ⟨by simp (maxSteps := 10000000) -implicitDefEqProofs +contextual (disch := omega) only [ub_laws_toInsS_0, rr_laws_toInsS, ↓XD, XU, refs, goneIn, Nat.beq, Nat.ble, List.isEmpty, ↓reduceIte, sevalprocAttr, lenV_osl, idx_osl, Ins.cells, el_toIns, set_ins, Int.lt_irrefl, hok], by simp⟩
theorem el_toInsS (o : Option (List Ins)) (hb : (ol o).length ≤ 1048576) : EP A n_laws_toInsS [osl Ins.cells o] = some (osl Ins.cells (some (ol o))) := by
  have hl := (lp_toIns o hb (List.replicate (ol o).length ⟨0, 0, 0, 0, 0⟩) (by simp)).1
  have e := iter_map (ol o) id ⟨0, 0, 0, 0, 0⟩
  simp only [id_eq, List.map_id] at e
  rw [e] at hl
  simp (maxSteps := 10000000) -implicitDefEqProofs +contextual (disch := omega) only [e_laws_toInsS, u_laws_toInsS, rr_laws_toInsS, lenV_osl, frz_osl, osl_some, rep_ins, Ins.cells, ↓XD, XU, refs, goneIn, Nat.beq, Nat.ble, List.isEmpty, ↓reduceIte, sevalprocAttr, hl]
  try rw [frzS_ins _ _ _ _ _ _ (by simp) (by simp)]
theorem el_toNamed (u : Nmd) : EP A n_laws_toNamed [.agg u.cells] = some (.agg u.cells) := by
  simp (maxSteps := 10000000) -implicitDefEqProofs +contextual (disch := omega) only [e_laws_toNamed, u_laws_toNamed, rr_laws_toNamed, Nmd.cells, ↓XD, XU, refs, goneIn, Nat.beq, Nat.ble, List.isEmpty, ↓reduceIte, sevalprocAttr]
theorem set_nmd (l : List Nmd) (i : Nat) (x0 : ByteArray) (x1 : Int) (x2 : Int) (x3 : Int) : (l.map Nmd.cells).set i [.str x0, .int .i64 x1, .int .i64 x2, .int .i64 x3] = (l.set i ⟨x0, x1, x2, x3⟩).map Nmd.cells := by rw [List.map_set]
theorem rep_nmd (n : Nat) : List.replicate n [PV.str ⟨#[]⟩, .int .i64 0, .int .i64 0, .int .i64 0] = (List.replicate n (⟨⟨#[]⟩, 0, 0, 0⟩ : Nmd)).map Nmd.cells := by rw [List.map_replicate]
theorem frzS_nmd (xs : List Nmd) (d : Nat) (H : Heap) (len tot s : Nat) (h1 : len = xs.length) (h2 : tot = xs.length) : frzS (d + 1) H 0 len tot (some (.cells s (xs.map Nmd.cells))) = .fz (xs.map Nmd.cells) := frzS_map _ xs _ H len tot s (fun _ _ => rfl) h1 h2
theorem lp_toNamed (o : Option (List Nmd)) (hb : (ol o).length ≤ 1048576) (a0 : List Nmd) (hok0 : a0.length = (ol o).length) : EV A (.loop (B_laws_toNamedS 0)) (⟨[(0, osl Nmd.cells o), (2, .nils), (3, .sl 0 0 (ol o).length (ol o).length), (4, .int .i64 (0))], [], [.cells 4 (a0.map Nmd.cells)], []⟩ : St) = some (AExit.exit 0, (⟨[(0, osl Nmd.cells o), (2, .nils), (3, .sl 0 0 (ol o).length (ol o).length), (4, .int .i64 ((ol o).length))], [], [.cells 4 ((iter (fun (i : Int) (a : List Nmd) => a.set i.toNat (nth (ol o) i)) (((ol o).length : Int) - 0).toNat (0) a0).map Nmd.cells)], []⟩ : St)) ∧ (iter (fun (i : Int) (a : List Nmd) => a.set i.toNat (nth (ol o) i)) (((ol o).length : Int) - 0).toNat (0) a0).length = (ol o).length := by
  refine loop_iter (fun i (a : List Nmd) => (⟨[(0, osl Nmd.cells o), (2, .nils), (3, .sl 0 0 (ol o).length (ol o).length), (4, .int .i64 i)], [], [.cells 4 (a.map Nmd.cells)], []⟩ : St)) (fun (i : Int) (a : List Nmd) => a.set i.toNat (nth (ol o) i)) (fun i (a : List Nmd) => a.length = (ol o).length) (fun a => (AExit.exit 0, (⟨[(0, osl Nmd.cells o), (2, .nils), (3, .sl 0 0 (ol o).length (ol o).length), (4, .int .i64 ((ol o).length))], [], [.cells 4 (a.map Nmd.cells)], []⟩ : St))) (0) ((ol o).length) ?_ ?_ (0) a0 (by omega) (by omega) hok0
  · intro i a hi hn hok
    refine ⟨⟨_, by simp (maxSteps := 10000000) -implicitDefEqProofs +contextual (disch := omega) only [ub_laws_toNamedS_0, rr_laws_toNamedS, ↓XD, XU, refs, goneIn, Nat.beq, Nat.ble, List.isEmpty, ↓reduceIte, sevalprocAttr, lenV_osl, idx_osl, Nmd.cells, el_toNamed, set_nmd, hn, hok]; rfl, by first | (simp [St.next, trim_all]; done) | (simp [St.next, trim_all]; omega) | (simp [St.next, trim, bare, refsL, refs]; done)⟩, by simp; omega⟩
  · rintro i a hi rfl hok
    refine ⟨by simp (maxSteps := 10000000) -implicitDefEqProofs +contextual (disch := omega) only [ub_laws_toNamedS_0, rr_laws_toNamedS, ↓XD, XU, refs, goneIn, Nat.beq, Nat.ble, List.isEmpty, ↓reduceIte, sevalprocAttr, lenV_osl, idx_osl, Nmd.cells, el_toNamed, set_nmd, Int.lt_irrefl, hok], by simp⟩
theorem el_toNamedS (o : Option (List Nmd)) (hb : (ol o).length ≤ 1048576) : EP A n_laws_toNamedS [osl Nmd.cells o] = some (osl Nmd.cells (some (ol o))) := by
  have hl := (lp_toNamed o hb (List.replicate (ol o).length ⟨⟨#[]⟩, 0, 0, 0⟩) (by simp)).1
  have e := iter_map (ol o) id ⟨⟨#[]⟩, 0, 0, 0⟩
  simp only [id_eq, List.map_id] at e
  rw [e] at hl
  simp (maxSteps := 10000000) -implicitDefEqProofs +contextual (disch := omega) only [e_laws_toNamedS, u_laws_toNamedS, rr_laws_toNamedS, lenV_osl, frz_osl, osl_some, rep_nmd, Nmd.cells, ↓XD, XU, refs, goneIn, Nat.beq, Nat.ble, List.isEmpty, ↓reduceIte, sevalprocAttr, hl]
  try rw [frzS_nmd _ _ _ _ _ _ (by simp) (by simp)]
def RProto.norm (f : RProto) : RProto := { f with Ups := some (ol f.Ups), Consts := some (ol f.Consts), Ins := some (ol f.Ins), Named := some (ol f.Named) }
structure ProtoS (f : RProto) : Prop where
  u : (ol f.Ups).length ≤ 1048576
  c : (ol f.Consts).length ≤ 1048576
  i : (ol f.Ins).length ≤ 1048576
  n : (ol f.Named).length ≤ 1048576
theorem el_toProto (f : RProto) (h : ProtoS f) : EP A n_laws_toProto [.agg f.cells] = some (.agg f.norm.cells) := by
  have g1 := el_toUpS f.Ups h.u
  have g2 := el_toValueS f.Consts h.c
  have g3 := el_toInsS f.Ins h.i
  have g4 := el_toNamedS f.Named h.n
  simp (maxSteps := 10000000) -implicitDefEqProofs +contextual (disch := omega) only [e_laws_toProto, u_laws_toProto, rr_laws_toProto, RProto.cells, frz_osl, refs_osl, isLeaf_osl, cellsOf_osl, ↓XD, XU, refs, goneIn, Nat.beq, Nat.ble, List.isEmpty, ↓reduceIte, sevalprocAttr, g1, g2, g3, g4]
  try rfl
def zF : RProto := ⟨⟨#[]⟩, 0, 0, false, 0, none, none, none, none⟩
theorem set_rproto (a : List RProto) (i : Nat) (s : ByteArray) (l p : Int) (b : Bool) (r : Int) (u : Option (List Up)) (c : Option (List Val)) (n : Option (List Ins)) (m : Option (List Nmd)) : (a.map RProto.cells).set i [.str s, .int .i64 l, .int .i64 p, .bool b, .int .i64 r, osl Up.cells u, osl Val.cells c, osl Ins.cells n, osl Nmd.cells m] = (a.set i ⟨s, l, p, b, r, u, c, n, m⟩).map RProto.cells := by rw [List.map_set]
theorem rep_rproto (n : Nat) : List.replicate n [PV.str ⟨#[]⟩, .int .i64 0, .int .i64 0, .bool false, .int .i64 0, .nils, .nils, .nils, .nils] = (List.replicate n zF).map RProto.cells := by rw [List.map_replicate]; rfl
theorem frzS_rproto (xs : List RProto) (d : Nat) (H : Heap) (len tot s : Nat) (h1 : len = xs.length) (h2 : tot = xs.length) : frzS (d + 1) H 0 len tot (some (.cells s (xs.map RProto.cells))) = .fz (xs.map RProto.cells) := frzS_map _ xs _ H len tot s (fun x _ => by simp only [RProto.cells, List.map_cons, List.map_nil, frz_int, frz_bool, frz_str, frz_osl]) h1 h2
theorem lp_toProto (o : Option (List RProto)) (hb : (ol o).length ≤ 1048576) (hs : ∀ i : Int, ProtoS (nth (ol o) i)) (a0 : List RProto) (hok0 : a0.length = (ol o).length) : EV A (.loop (B_laws_toProtoS 0)) (⟨[(0, osl RProto.cells o), (2, .nils), (3, .sl 0 0 (ol o).length (ol o).length), (4, .int .i64 (0))], [], [.cells 9 (a0.map RProto.cells)], []⟩ : St) = some (AExit.exit 0, (⟨[(0, osl RProto.cells o), (2, .nils), (3, .sl 0 0 (ol o).length (ol o).length), (4, .int .i64 ((ol o).length))], [], [.cells 9 ((iter (fun (i : Int) (a : List RProto) => a.set i.toNat (nth (ol o) i).norm) (((ol o).length : Int) - 0).toNat (0) a0).map RProto.cells)], []⟩ : St)) ∧ (iter (fun (i : Int) (a : List RProto) => a.set i.toNat (nth (ol o) i).norm) (((ol o).length : Int) - 0).toNat (0) a0).length = (ol o).length := by
  refine loop_iter (fun i (a : List RProto) => (⟨[(0, osl RProto.cells o), (2, .nils), (3, .sl 0 0 (ol o).length (ol o).length), (4, .int .i64 i)], [], [.cells 9 (a.map RProto.cells)], []⟩ : St)) (fun (i : Int) (a : List RProto) => a.set i.toNat (nth (ol o) i).norm) (fun i (a : List RProto) => a.length = (ol o).length) (fun a => (AExit.exit 0, (⟨[(0, osl RProto.cells o), (2, .nils), (3, .sl 0 0 (ol o).length (ol o).length), (4, .int .i64 ((ol o).length))], [], [.cells 9 (a.map RProto.cells)], []⟩ : St))) (0) ((ol o).length) ?_ ?_ (0) a0 (by omega) (by omega) hok0
  · intro i a hi hn hok
    have hg := el_toProto (nth (ol o) i) (hs i); simp only [RProto.cells, RProto.norm] at hg
    refine ⟨⟨_, by simp (maxSteps := 10000000) -implicitDefEqProofs +contextual (disch := omega) only [ub_laws_toProtoS_0, rr_laws_toProtoS, ↓XD, XU, refs, goneIn, Nat.beq, Nat.ble, List.isEmpty, ↓reduceIte, sevalprocAttr, lenV_osl, idx_osl, frz_osl, refs_osl, isLeaf_osl, RProto.cells, RProto.norm, set_rproto, hg, hn, hok]; rfl, by first | (simp [St.next, trim_all, RProto.norm]; done) | (simp [St.next, trim_all, RProto.norm]; omega) | (simp [St.next, trim, bare, refsL, refs, RProto.norm]; done)⟩, by simp; omega⟩
  · rintro i a hi rfl hok
    refine ⟨by simp (maxSteps := 10000000) -implicitDefEqProofs +contextual (disch := omega) only [ub_laws_toProtoS_0, rr_laws_toProtoS, ↓XD, XU, refs, goneIn, Nat.beq, Nat.ble, List.isEmpty, ↓reduceIte, sevalprocAttr, lenV_osl, idx_osl, frz_osl, refs_osl, isLeaf_osl, RProto.cells, RProto.norm, set_rproto, Int.lt_irrefl, hok], by simp⟩
theorem el_toProtoS (o : Option (List RProto)) (hb : (ol o).length ≤ 1048576) (hs : ∀ i : Int, ProtoS (nth (ol o) i)) : EP A n_laws_toProtoS [osl RProto.cells o] = some (osl RProto.cells (some ((ol o).map RProto.norm))) := by
  have hl := (lp_toProto o hb hs (List.replicate (ol o).length zF) (by simp)).1
  have e := iter_map (ol o) RProto.norm zF
  rw [e] at hl
  simp (maxSteps := 10000000) -implicitDefEqProofs +contextual (disch := omega) only [e_laws_toProtoS, u_laws_toProtoS, rr_laws_toProtoS, lenV_osl, frz_osl, osl_some, rep_rproto, ↓XD, XU, refs, goneIn, Nat.beq, Nat.ble, List.isEmpty, ↓reduceIte, sevalprocAttr, hl]
  rw [frzS_rproto _ _ _ _ _ _ (by simp) (by simp)]
theorem el_toCode (o : Option (List RProto)) (hb : (ol o).length ≤ 1048576) (hs : ∀ i : Int, ProtoS (nth (ol o) i)) : EP A n_laws_toCode [.agg (rcode o)] = some (.agg (rcode (some ((ol o).map RProto.norm)))) := by
  have g := el_toProtoS o hb hs
  simp (maxSteps := 10000000) -implicitDefEqProofs +contextual (disch := omega) only [e_laws_toCode, u_laws_toCode, rr_laws_toCode, rcode, frz_osl, refs_osl, isLeaf_osl, cellsOf_osl, ↓XD, XU, refs, goneIn, Nat.beq, Nat.ble, List.isEmpty, ↓reduceIte, sevalprocAttr, g]
def RProto.to (f : RProto) : Proto := ⟨f.Name, f.Line, f.Params, f.Rest, f.Regs, ol f.Ups, ol f.Consts, ol f.Ins, ol f.Named⟩
theorem norm_proto (f : RProto) : f.norm.cells = f.to.cells := by
  simp only [RProto.norm, RProto.to, RProto.cells, Proto.cells, osl_some, ups, vals, inss, nmds]
theorem norm_code (l : List RProto) : rcode (some (l.map RProto.norm)) = [protos (l.map RProto.to)] := by
  simp only [rcode, osl_some, protos, List.map_map]
  congr 2
  try exact List.map_congr_left fun f _ => norm_proto f
end Go.Proofs.Tryd.Av
end
