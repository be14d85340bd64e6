/- What the functions that FnExactCheckUnit reaches compute, each by its equation. Conditions on sizes stand in each statement. -/
import Derived.Test.YtffiogaamojjeaaAv2
import Derived.Test.YtffiogaamojjeaaEp1
set_option linter.all false
section
attribute [local congr] ite_congr
set_option linter.unusedSimpArgs false
set_option linter.unusedVariables false
set_option maxRecDepth 10000
set_option maxHeartbeats 4000000
namespace Go.Proofs.Try.Av
open Go Go.Av Classical
theorem li_nodeOk0 (v0 : PV) (a : Int) (l : List Int) (H : Heap) (hb : l.length ≤ 1048576) : EV A (.loop (B_impl_nodeOk 0)) ⟨[(0, v0), (1, .int .i64 a), (2, .ptr 0 0 0 1), (4, .bool false), (5, .ptr 1 0 0 1), (67, ints l), (68, .int .i64 l.length), (69, .int .i64 (0))], [], H, []⟩ = some (match seek (fun j => nth l j < 0 ∨ a ≤ nth l j) 0 l.length with | some j => (AExit.ret, (⟨[(0, v0), (1, .int .i64 a), (2, .ptr 0 0 0 1), (4, .bool false), (5, .ptr 1 0 0 1), (67, ints l), (68, .int .i64 l.length), (69, .int .i64 j), (7, .int .i64 (nth l j))], [], H, []⟩ : St)) | none => (AExit.exit 0, (⟨[(0, v0), (1, .int .i64 a), (2, .ptr 0 0 0 1), (4, .bool false), (5, .ptr 1 0 0 1), (67, ints l), (68, .int .i64 l.length), (69, .int .i64 (l.length))], [], H, []⟩ : St))) := by
  refine loop_search (fun i => ⟨[(0, v0), (1, .int .i64 a), (2, .ptr 0 0 0 1), (4, .bool false), (5, .ptr 1 0 0 1), (67, ints l), (68, .int .i64 l.length), (69, .int .i64 i)], [], H, []⟩) (fun j => nth l j < 0 ∨ a ≤ nth l j) (fun j => (AExit.ret, (⟨[(0, v0), (1, .int .i64 a), (2, .ptr 0 0 0 1), (4, .bool false), (5, .ptr 1 0 0 1), (67, ints l), (68, .int .i64 l.length), (69, .int .i64 j), (7, .int .i64 (nth l j))], [], H, []⟩ : St))) (AExit.exit 0, (⟨[(0, v0), (1, .int .i64 a), (2, .ptr 0 0 0 1), (4, .bool false), (5, .ptr 1 0 0 1), (67, ints l), (68, .int .i64 l.length), (69, .int .i64 (l.length))], [], H, []⟩ : St)) (0) (l.length) ?_ ?_ ?_ (0) (by omega) (by omega)
  · intro i hi hn hp
    try simp only [Classical.not_not] at hp
    refine ⟨_, by simp (maxSteps := 10000000) -implicitDefEqProofs +contextual (disch := omega) only [ub_impl_nodeOk_0, rr_impl_nodeOk, ↓XD, XU, refs, goneIn, Nat.beq, Nat.ble, List.isEmpty, ↓reduceIte, sevalprocAttr, ints, hn, hp]; rfl, ?_⟩
    first | (simp [St.next, trim_all]; done) | (simp [St.next, trim, bare, refsL, refs, refs]; done)
  · intro i hi hn hp
    refine ⟨by simp (maxSteps := 10000000) -implicitDefEqProofs +contextual (disch := omega) only [ub_impl_nodeOk_0, rr_impl_nodeOk, ↓XD, XU, refs, goneIn, Nat.beq, Nat.ble, List.isEmpty, ↓reduceIte, sevalprocAttr, ints, hn, hp], by simp⟩
  · rintro i hi rfl
    refine ⟨by simp (maxSteps := 10000000) -implicitDefEqProofs +contextual (disch := omega) only [ub_impl_nodeOk_0, rr_impl_nodeOk, ↓XD, XU, refs, goneIn, Nat.beq, Nat.ble, List.isEmpty, ↓reduceIte, sevalprocAttr, ints, Int.lt_irrefl], by simp⟩
section
variable (f : Fn) (a : Int) (h0 : 0 ≤ a) (h1 : a < f.Nodes.length) (hk : (nth f.Nodes a).Kids.length ≤ 1048576)
theorem kid_is (hki : ∀ i : Int, 0 ≤ i → i < (nth f.Nodes a).Kids.length → 0 ≤ nth (nth f.Nodes a).Kids i ∧ nth (nth f.Nodes a).Kids i < a) {i : Int} (i0 : 0 ≤ i) (i1 : i < (nth f.Nodes a).Kids.length) : l3kid f.Nodes a i = ikind f.Nodes (nth f.Nodes a).Kids i := by
  have := hki i i0 i1
  rw [l3kid, if_neg (by omega), if_neg (by omega)]
theorem exprs_one (ns : List Node) (a : Int) : Exprs ns a 0 1 ↔ isExpr (l3kid ns a 0) := ⟨fun h => h 0 (by omega) (by omega), fun h j j0 j1 => (show j = 0 by omega) ▸ h⟩
theorem exprs_two (ns : List Node) (a : Int) : Exprs ns a 0 2 ↔ isExpr (l3kid ns a 0) ∧ isExpr (l3kid ns a 1) := ⟨fun h => ⟨h 0 (by omega) (by omega), h 1 (by omega) (by omega)⟩, fun h j j0 j1 => by
  have : j = 0 ∨ j = 1 := by omega
  rcases this with e | e <;> subst e
  · exact h.1
  · exact h.2⟩
theorem exprs_three (ns : List Node) (a : Int) : Exprs ns a 0 3 ↔ isExpr (l3kid ns a 0) ∧ isExpr (l3kid ns a 1) ∧ isExpr (l3kid ns a 2) := ⟨fun h => ⟨h 0 (by omega) (by omega), h 1 (by omega) (by omega), h 2 (by omega) (by omega)⟩, fun h j j0 j1 => by
  have : j = 0 ∨ j = 1 ∨ j = 2 := by omega
  rcases this with e | e | e <;> subst e
  · exact h.1
  · exact h.2.1
  · exact h.2.2⟩
theorem exprs_all (hki : ∀ i : Int, 0 ≤ i → i < (nth f.Nodes a).Kids.length → 0 ≤ nth (nth f.Nodes a).Kids i ∧ nth (nth f.Nodes a).Kids i < a) {i : Int} (i0 : 0 ≤ i) : Exprs f.Nodes a i (nth f.Nodes a).Kids.length ↔ IAll isExpr f.Nodes (nth f.Nodes a).Kids i :=
  ⟨fun h j j0 j1 => by rw [← kid_is f a hki (by omega) j1]; exact h j j0 j1, fun h j j0 j1 => by rw [kid_is f a hki (by omega) j1]; exact h j j0 j1⟩
theorem stats_all (hki : ∀ i : Int, 0 ≤ i → i < (nth f.Nodes a).Kids.length → 0 ≤ nth (nth f.Nodes a).Kids i ∧ nth (nth f.Nodes a).Kids i < a) : (∀ i : Int, 0 ≤ i → i < (nth f.Nodes a).Kids.length → isStat (l3kid f.Nodes a i)) ↔ IAll isStat f.Nodes (nth f.Nodes a).Kids 0 :=
  ⟨fun h j j0 j1 => by rw [← kid_is f a hki (by omega) j1]; exact h j j0 j1, fun h j j0 j1 => by rw [kid_is f a hki (by omega) j1]; exact h j j0 j1⟩
variable (hl : ∀ v0 H, EV A (.loop (B_impl_nodeOk 0)) ⟨[(0, v0), (1, .int .i64 a), (2, .ptr 0 0 0 1), (4, .bool false), (5, .ptr 1 0 0 1), (67, ints (nth f.Nodes a).Kids), (68, .int .i64 (nth f.Nodes a).Kids.length), (69, .int .i64 0)], [], H, []⟩ = some (.exit 0, ⟨[(0, v0), (1, .int .i64 a), (2, .ptr 0 0 0 1), (4, .bool false), (5, .ptr 1 0 0 1), (67, ints (nth f.Nodes a).Kids), (68, .int .i64 (nth f.Nodes a).Kids.length), (69, .int .i64 (nth f.Nodes a).Kids.length)], [], H, []⟩))
   (hki : ∀ i : Int, 0 ≤ i → i < (nth f.Nodes a).Kids.length → 0 ≤ nth (nth f.Nodes a).Kids i ∧ nth (nth f.Nodes a).Kids i < a) (hc : ¬200 < ((nth f.Nodes a).Kids.length : Int))
include h0 h1 hk hl hki hc
theorem nk_2 (hK : (nth f.Nodes a).Kind = 2) : EP A n_impl_nodeOk [.agg f.cells, .int .i64 a] = some (.bool (decide (Shape f.Nodes a))) := by
  have hs : isStat 2 := by simp only [isStat]; omega
  have he : ¬isExpr 2 := by simp only [isExpr]; omega
  have hki' : ∀ i : Int, 0 ≤ i → i < (nth f.Nodes a).Kids.length → 0 ≤ nth (nth f.Nodes a).Kids i ∧ nth (nth f.Nodes a).Kids i < f.Nodes.length := fun i i0 i1 => by have := hki i i0 i1; omega
  have ea1 := fun f0 p0 p1 p2 p3 p4 p5 q0 q1 q2 q3 q4 q5 q6 h0 h1 c hc => ei_all n_impl_expression isExpr ei_expression f0 f.Nodes (nth f.Nodes a).Kids p0 p1 p2 p3 p4 p5 q0 q1 q2 q3 q4 q5 q6 h0 h1 hk c hc hki'
  have ea2 := fun f0 p0 p1 p2 p3 p4 p5 q0 q1 q2 q3 q4 q5 q6 h0 h1 c hc => ei_all n_impl_statement isStat ei_statement f0 f.Nodes (nth f.Nodes a).Kids p0 p1 p2 p3 p4 p5 q0 q1 q2 q3 q4 q5 q6 h0 h1 hk c hc hki'
  have k0 := hki' 0
  have k1 := hki' 1
  have k2 := hki' 2
  have k3 := hki' 3
  have k4 := hki' ((nth f.Nodes a).Kids.length - 1)
  have k5 := hki' ((nth f.Nodes a).Kids.length - 2)
  have e0 := @kid_is f a hki 0
  have e1 := @kid_is f a hki 1
  have e2 := @kid_is f a hki 2
  have e3 := @kid_is f a hki 3
  have e4 := @kid_is f a hki ((nth f.Nodes a).Kids.length - 1)
  have e5 := @kid_is f a hki ((nth f.Nodes a).Kids.length - 2)
  simp (maxSteps := 10000000) -implicitDefEqProofs +contextual (disch := omega) only [e_impl_nodeOk, u_impl_nodeOk, rr_impl_nodeOk, hK, hs, he, hc, nodes, ints, strs, ups, Node.cells, Fn.cells, ↓XD, XU, refs, goneIn, Nat.beq, Nat.ble, List.isEmpty, ↓reduceIte, sevalprocAttr, ei_statement, ei_expression, ei_IsNaN, hl, ea1, ea2, ei_is, ei_kind]
  refine some_bool ?_
  simp only [Shape, Stmt, Expr, hK, hs, he, Bare, exprs_one, exprs_two, exprs_three, exprs_all f a hki (Int.le_refl 0), stats_all f a hki, Bool.and_eq_true, Bool.or_eq_true, Bool.not_eq_true', decide_eq_false_iff_not, decide_eq_true_eq, Int.reduceEq, false_and, and_false, false_or, or_false, true_and, and_true, Bool.false_eq_true, not_true, not_false_eq_true]
  clear hl ea1 ea2
  grind
theorem nk_1 (hK : (nth f.Nodes a).Kind = 1) : EP A n_impl_nodeOk [.agg f.cells, .int .i64 a] = some (.bool (decide (Shape f.Nodes a))) := by
  have hs : isStat 1 := by simp only [isStat]; omega
  have he : ¬isExpr 1 := by simp only [isExpr]; omega
  have hki' : ∀ i : Int, 0 ≤ i → i < (nth f.Nodes a).Kids.length → 0 ≤ nth (nth f.Nodes a).Kids i ∧ nth (nth f.Nodes a).Kids i < f.Nodes.length := fun i i0 i1 => by have := hki i i0 i1; omega
  have ea1 := fun f0 p0 p1 p2 p3 p4 p5 q0 q1 q2 q3 q4 q5 q6 h0 h1 c hc => ei_all n_impl_expression isExpr ei_expression f0 f.Nodes (nth f.Nodes a).Kids p0 p1 p2 p3 p4 p5 q0 q1 q2 q3 q4 q5 q6 h0 h1 hk c hc hki'
  have ea2 := fun f0 p0 p1 p2 p3 p4 p5 q0 q1 q2 q3 q4 q5 q6 h0 h1 c hc => ei_all n_impl_statement isStat ei_statement f0 f.Nodes (nth f.Nodes a).Kids p0 p1 p2 p3 p4 p5 q0 q1 q2 q3 q4 q5 q6 h0 h1 hk c hc hki'
  have k0 := hki' 0
  have k1 := hki' 1
  have k2 := hki' 2
  have k3 := hki' 3
  have k4 := hki' ((nth f.Nodes a).Kids.length - 1)
  have k5 := hki' ((nth f.Nodes a).Kids.length - 2)
  have e0 := @kid_is f a hki 0
  have e1 := @kid_is f a hki 1
  have e2 := @kid_is f a hki 2
  have e3 := @kid_is f a hki 3
  have e4 := @kid_is f a hki ((nth f.Nodes a).Kids.length - 1)
  have e5 := @kid_is f a hki ((nth f.Nodes a).Kids.length - 2)
  simp (maxSteps := 10000000) -implicitDefEqProofs +contextual (disch := omega) only [e_impl_nodeOk, u_impl_nodeOk, rr_impl_nodeOk, hK, hs, he, hc, nodes, ints, strs, ups, Node.cells, Fn.cells, ↓XD, XU, refs, goneIn, Nat.beq, Nat.ble, List.isEmpty, ↓reduceIte, sevalprocAttr, ei_statement, ei_expression, ei_IsNaN, hl, ea1, ea2, ei_is, ei_kind]
  refine some_bool ?_
  simp only [Shape, Stmt, Expr, hK, hs, he, Bare, exprs_one, exprs_two, exprs_three, exprs_all f a hki (Int.le_refl 0), stats_all f a hki, Bool.and_eq_true, Bool.or_eq_true, Bool.not_eq_true', decide_eq_false_iff_not, decide_eq_true_eq, Int.reduceEq, false_and, and_false, false_or, or_false, true_and, and_true, Bool.false_eq_true, not_true, not_false_eq_true]
  clear hl ea1 ea2
  grind
theorem nk_4 (hK : (nth f.Nodes a).Kind = 4) : EP A n_impl_nodeOk [.agg f.cells, .int .i64 a] = some (.bool (decide (Shape f.Nodes a))) := by
  have hs : isStat 4 := by simp only [isStat]; omega
  have he : ¬isExpr 4 := by simp only [isExpr]; omega
  have hki' : ∀ i : Int, 0 ≤ i → i < (nth f.Nodes a).Kids.length → 0 ≤ nth (nth f.Nodes a).Kids i ∧ nth (nth f.Nodes a).Kids i < f.Nodes.length := fun i i0 i1 => by have := hki i i0 i1; omega
  have ea1 := fun f0 p0 p1 p2 p3 p4 p5 q0 q1 q2 q3 q4 q5 q6 h0 h1 c hc => ei_all n_impl_expression isExpr ei_expression f0 f.Nodes (nth f.Nodes a).Kids p0 p1 p2 p3 p4 p5 q0 q1 q2 q3 q4 q5 q6 h0 h1 hk c hc hki'
  have ea2 := fun f0 p0 p1 p2 p3 p4 p5 q0 q1 q2 q3 q4 q5 q6 h0 h1 c hc => ei_all n_impl_statement isStat ei_statement f0 f.Nodes (nth f.Nodes a).Kids p0 p1 p2 p3 p4 p5 q0 q1 q2 q3 q4 q5 q6 h0 h1 hk c hc hki'
  have k0 := hki' 0
  have k1 := hki' 1
  have k2 := hki' 2
  have k3 := hki' 3
  have k4 := hki' ((nth f.Nodes a).Kids.length - 1)
  have k5 := hki' ((nth f.Nodes a).Kids.length - 2)
  have e0 := @kid_is f a hki 0
  have e1 := @kid_is f a hki 1
  have e2 := @kid_is f a hki 2
  have e3 := @kid_is f a hki 3
  have e4 := @kid_is f a hki ((nth f.Nodes a).Kids.length - 1)
  have e5 := @kid_is f a hki ((nth f.Nodes a).Kids.length - 2)
  simp (maxSteps := 10000000) -implicitDefEqProofs +contextual (disch := omega) only [e_impl_nodeOk, u_impl_nodeOk, rr_impl_nodeOk, hK, hs, he, hc, nodes, ints, strs, ups, Node.cells, Fn.cells, ↓XD, XU, refs, goneIn, Nat.beq, Nat.ble, List.isEmpty, ↓reduceIte, sevalprocAttr, ei_statement, ei_expression, ei_IsNaN, hl, ea1, ea2, ei_is, ei_kind]
  refine some_bool ?_
  simp only [Shape, Stmt, Expr, hK, hs, he, Bare, exprs_one, exprs_two, exprs_three, exprs_all f a hki (Int.le_refl 0), stats_all f a hki, Bool.and_eq_true, Bool.or_eq_true, Bool.not_eq_true', decide_eq_false_iff_not, decide_eq_true_eq, Int.reduceEq, false_and, and_false, false_or, or_false, true_and, and_true, Bool.false_eq_true, not_true, not_false_eq_true]
  clear hl ea1 ea2
  grind
theorem nk_5 (hK : (nth f.Nodes a).Kind = 5) : EP A n_impl_nodeOk [.agg f.cells, .int .i64 a] = some (.bool (decide (Shape f.Nodes a))) := by
  have hs : isStat 5 := by simp only [isStat]; omega
  have he : ¬isExpr 5 := by simp only [isExpr]; omega
  have hki' : ∀ i : Int, 0 ≤ i → i < (nth f.Nodes a).Kids.length → 0 ≤ nth (nth f.Nodes a).Kids i ∧ nth (nth f.Nodes a).Kids i < f.Nodes.length := fun i i0 i1 => by have := hki i i0 i1; omega
  have ea1 := fun f0 p0 p1 p2 p3 p4 p5 q0 q1 q2 q3 q4 q5 q6 h0 h1 c hc => ei_all n_impl_expression isExpr ei_expression f0 f.Nodes (nth f.Nodes a).Kids p0 p1 p2 p3 p4 p5 q0 q1 q2 q3 q4 q5 q6 h0 h1 hk c hc hki'
  have ea2 := fun f0 p0 p1 p2 p3 p4 p5 q0 q1 q2 q3 q4 q5 q6 h0 h1 c hc => ei_all n_impl_statement isStat ei_statement f0 f.Nodes (nth f.Nodes a).Kids p0 p1 p2 p3 p4 p5 q0 q1 q2 q3 q4 q5 q6 h0 h1 hk c hc hki'
  have k0 := hki' 0
  have k1 := hki' 1
  have k2 := hki' 2
  have k3 := hki' 3
  have k4 := hki' ((nth f.Nodes a).Kids.length - 1)
  have k5 := hki' ((nth f.Nodes a).Kids.length - 2)
  have e0 := @kid_is f a hki 0
  have e1 := @kid_is f a hki 1
  have e2 := @kid_is f a hki 2
  have e3 := @kid_is f a hki 3
  have e4 := @kid_is f a hki ((nth f.Nodes a).Kids.length - 1)
  have e5 := @kid_is f a hki ((nth f.Nodes a).Kids.length - 2)
  simp (maxSteps := 10000000) -implicitDefEqProofs +contextual (disch := omega) only [e_impl_nodeOk, u_impl_nodeOk, rr_impl_nodeOk, hK, hs, he, hc, nodes, ints, strs, ups, Node.cells, Fn.cells, ↓XD, XU, refs, goneIn, Nat.beq, Nat.ble, List.isEmpty, ↓reduceIte, sevalprocAttr, ei_statement, ei_expression, ei_IsNaN, hl, ea1, ea2, ei_is, ei_kind]
  refine some_bool ?_
  simp only [Shape, Stmt, Expr, hK, hs, he, Bare, exprs_one, exprs_two, exprs_three, exprs_all f a hki (Int.le_refl 0), stats_all f a hki, Bool.and_eq_true, Bool.or_eq_true, Bool.not_eq_true', decide_eq_false_iff_not, decide_eq_true_eq, Int.reduceEq, false_and, and_false, false_or, or_false, true_and, and_true, Bool.false_eq_true, not_true, not_false_eq_true]
  clear hl ea1 ea2
  grind
theorem nk_6 (hK : (nth f.Nodes a).Kind = 6) : EP A n_impl_nodeOk [.agg f.cells, .int .i64 a] = some (.bool (decide (Shape f.Nodes a))) := by
  have hs : isStat 6 := by simp only [isStat]; omega
  have he : ¬isExpr 6 := by simp only [isExpr]; omega
  have hki' : ∀ i : Int, 0 ≤ i → i < (nth f.Nodes a).Kids.length → 0 ≤ nth (nth f.Nodes a).Kids i ∧ nth (nth f.Nodes a).Kids i < f.Nodes.length := fun i i0 i1 => by have := hki i i0 i1; omega
  have ea1 := fun f0 p0 p1 p2 p3 p4 p5 q0 q1 q2 q3 q4 q5 q6 h0 h1 c hc => ei_all n_impl_expression isExpr ei_expression f0 f.Nodes (nth f.Nodes a).Kids p0 p1 p2 p3 p4 p5 q0 q1 q2 q3 q4 q5 q6 h0 h1 hk c hc hki'
  have ea2 := fun f0 p0 p1 p2 p3 p4 p5 q0 q1 q2 q3 q4 q5 q6 h0 h1 c hc => ei_all n_impl_statement isStat ei_statement f0 f.Nodes (nth f.Nodes a).Kids p0 p1 p2 p3 p4 p5 q0 q1 q2 q3 q4 q5 q6 h0 h1 hk c hc hki'
  have k0 := hki' 0
  have k1 := hki' 1
  have k2 := hki' 2
  have k3 := hki' 3
  have k4 := hki' ((nth f.Nodes a).Kids.length - 1)
  have k5 := hki' ((nth f.Nodes a).Kids.length - 2)
  have e0 := @kid_is f a hki 0
  have e1 := @kid_is f a hki 1
  have e2 := @kid_is f a hki 2
  have e3 := @kid_is f a hki 3
  have e4 := @kid_is f a hki ((nth f.Nodes a).Kids.length - 1)
  have e5 := @kid_is f a hki ((nth f.Nodes a).Kids.length - 2)
  simp (maxSteps := 10000000) -implicitDefEqProofs +contextual (disch := omega) only [e_impl_nodeOk, u_impl_nodeOk, rr_impl_nodeOk, hK, hs, he, hc, nodes, ints, strs, ups, Node.cells, Fn.cells, ↓XD, XU, refs, goneIn, Nat.beq, Nat.ble, List.isEmpty, ↓reduceIte, sevalprocAttr, ei_statement, ei_expression, ei_IsNaN, hl, ea1, ea2, ei_is, ei_kind]
  refine some_bool ?_
  simp only [Shape, Stmt, Expr, hK, hs, he, Bare, exprs_one, exprs_two, exprs_three, exprs_all f a hki (Int.le_refl 0), stats_all f a hki, Bool.and_eq_true, Bool.or_eq_true, Bool.not_eq_true', decide_eq_false_iff_not, decide_eq_true_eq, Int.reduceEq, false_and, and_false, false_or, or_false, true_and, and_true, Bool.false_eq_true, not_true, not_false_eq_true]
  clear hl ea1 ea2
  grind
theorem nk_7 (hK : (nth f.Nodes a).Kind = 7) : EP A n_impl_nodeOk [.agg f.cells, .int .i64 a] = some (.bool (decide (Shape f.Nodes a))) := by
  have hs : isStat 7 := by simp only [isStat]; omega
  have he : ¬isExpr 7 := by simp only [isExpr]; omega
  have hki' : ∀ i : Int, 0 ≤ i → i < (nth f.Nodes a).Kids.length → 0 ≤ nth (nth f.Nodes a).Kids i ∧ nth (nth f.Nodes a).Kids i < f.Nodes.length := fun i i0 i1 => by have := hki i i0 i1; omega
  have ea1 := fun f0 p0 p1 p2 p3 p4 p5 q0 q1 q2 q3 q4 q5 q6 h0 h1 c hc => ei_all n_impl_expression isExpr ei_expression f0 f.Nodes (nth f.Nodes a).Kids p0 p1 p2 p3 p4 p5 q0 q1 q2 q3 q4 q5 q6 h0 h1 hk c hc hki'
  have ea2 := fun f0 p0 p1 p2 p3 p4 p5 q0 q1 q2 q3 q4 q5 q6 h0 h1 c hc => ei_all n_impl_statement isStat ei_statement f0 f.Nodes (nth f.Nodes a).Kids p0 p1 p2 p3 p4 p5 q0 q1 q2 q3 q4 q5 q6 h0 h1 hk c hc hki'
  have k0 := hki' 0
  have k1 := hki' 1
  have k2 := hki' 2
  have k3 := hki' 3
  have k4 := hki' ((nth f.Nodes a).Kids.length - 1)
  have k5 := hki' ((nth f.Nodes a).Kids.length - 2)
  have e0 := @kid_is f a hki 0
  have e1 := @kid_is f a hki 1
  have e2 := @kid_is f a hki 2
  have e3 := @kid_is f a hki 3
  have e4 := @kid_is f a hki ((nth f.Nodes a).Kids.length - 1)
  have e5 := @kid_is f a hki ((nth f.Nodes a).Kids.length - 2)
  simp (maxSteps := 10000000) -implicitDefEqProofs +contextual (disch := omega) only [e_impl_nodeOk, u_impl_nodeOk, rr_impl_nodeOk, hK, hs, he, hc, nodes, ints, strs, ups, Node.cells, Fn.cells, ↓XD, XU, refs, goneIn, Nat.beq, Nat.ble, List.isEmpty, ↓reduceIte, sevalprocAttr, ei_statement, ei_expression, ei_IsNaN, hl, ea1, ea2, ei_is, ei_kind]
  refine some_bool ?_
  simp only [Shape, Stmt, Expr, hK, hs, he, Bare, exprs_one, exprs_two, exprs_three, exprs_all f a hki (Int.le_refl 0), stats_all f a hki, Bool.and_eq_true, Bool.or_eq_true, Bool.not_eq_true', decide_eq_false_iff_not, decide_eq_true_eq, Int.reduceEq, false_and, and_false, false_or, or_false, true_and, and_true, Bool.false_eq_true, not_true, not_false_eq_true]
  clear hl ea1 ea2
  grind
theorem nk_8 (hK : (nth f.Nodes a).Kind = 8) : EP A n_impl_nodeOk [.agg f.cells, .int .i64 a] = some (.bool (decide (Shape f.Nodes a))) := by
  have hs : isStat 8 := by simp only [isStat]; omega
  have he : ¬isExpr 8 := by simp only [isExpr]; omega
  have hki' : ∀ i : Int, 0 ≤ i → i < (nth f.Nodes a).Kids.length → 0 ≤ nth (nth f.Nodes a).Kids i ∧ nth (nth f.Nodes a).Kids i < f.Nodes.length := fun i i0 i1 => by have := hki i i0 i1; omega
  have ea1 := fun f0 p0 p1 p2 p3 p4 p5 q0 q1 q2 q3 q4 q5 q6 h0 h1 c hc => ei_all n_impl_expression isExpr ei_expression f0 f.Nodes (nth f.Nodes a).Kids p0 p1 p2 p3 p4 p5 q0 q1 q2 q3 q4 q5 q6 h0 h1 hk c hc hki'
  have ea2 := fun f0 p0 p1 p2 p3 p4 p5 q0 q1 q2 q3 q4 q5 q6 h0 h1 c hc => ei_all n_impl_statement isStat ei_statement f0 f.Nodes (nth f.Nodes a).Kids p0 p1 p2 p3 p4 p5 q0 q1 q2 q3 q4 q5 q6 h0 h1 hk c hc hki'
  have k0 := hki' 0
  have k1 := hki' 1
  have k2 := hki' 2
  have k3 := hki' 3
  have k4 := hki' ((nth f.Nodes a).Kids.length - 1)
  have k5 := hki' ((nth f.Nodes a).Kids.length - 2)
  have e0 := @kid_is f a hki 0
  have e1 := @kid_is f a hki 1
  have e2 := @kid_is f a hki 2
  have e3 := @kid_is f a hki 3
  have e4 := @kid_is f a hki ((nth f.Nodes a).Kids.length - 1)
  have e5 := @kid_is f a hki ((nth f.Nodes a).Kids.length - 2)
  simp (maxSteps := 10000000) -implicitDefEqProofs +contextual (disch := omega) only [e_impl_nodeOk, u_impl_nodeOk, rr_impl_nodeOk, hK, hs, he, hc, nodes, ints, strs, ups, Node.cells, Fn.cells, ↓XD, XU, refs, goneIn, Nat.beq, Nat.ble, List.isEmpty, ↓reduceIte, sevalprocAttr, ei_statement, ei_expression, ei_IsNaN, hl, ea1, ea2, ei_is, ei_kind]
  refine some_bool ?_
  simp only [Shape, Stmt, Expr, hK, hs, he, Bare, exprs_one, exprs_two, exprs_three, exprs_all f a hki (Int.le_refl 0), stats_all f a hki, Bool.and_eq_true, Bool.or_eq_true, Bool.not_eq_true', decide_eq_false_iff_not, decide_eq_true_eq, Int.reduceEq, false_and, and_false, false_or, or_false, true_and, and_true, Bool.false_eq_true, not_true, not_false_eq_true]
  clear hl ea1 ea2
  grind
theorem nk_9 (hK : (nth f.Nodes a).Kind = 9) : EP A n_impl_nodeOk [.agg f.cells, .int .i64 a] = some (.bool (decide (Shape f.Nodes a))) := by
  have hs : isStat 9 := by simp only [isStat]; omega
  have he : ¬isExpr 9 := by simp only [isExpr]; omega
  have hki' : ∀ i : Int, 0 ≤ i → i < (nth f.Nodes a).Kids.length → 0 ≤ nth (nth f.Nodes a).Kids i ∧ nth (nth f.Nodes a).Kids i < f.Nodes.length := fun i i0 i1 => by have := hki i i0 i1; omega
  have ea1 := fun f0 p0 p1 p2 p3 p4 p5 q0 q1 q2 q3 q4 q5 q6 h0 h1 c hc => ei_all n_impl_expression isExpr ei_expression f0 f.Nodes (nth f.Nodes a).Kids p0 p1 p2 p3 p4 p5 q0 q1 q2 q3 q4 q5 q6 h0 h1 hk c hc hki'
  have ea2 := fun f0 p0 p1 p2 p3 p4 p5 q0 q1 q2 q3 q4 q5 q6 h0 h1 c hc => ei_all n_impl_statement isStat ei_statement f0 f.Nodes (nth f.Nodes a).Kids p0 p1 p2 p3 p4 p5 q0 q1 q2 q3 q4 q5 q6 h0 h1 hk c hc hki'
  have k0 := hki' 0
  have k1 := hki' 1
  have k2 := hki' 2
  have k3 := hki' 3
  have k4 := hki' ((nth f.Nodes a).Kids.length - 1)
  have k5 := hki' ((nth f.Nodes a).Kids.length - 2)
  have e0 := @kid_is f a hki 0
  have e1 := @kid_is f a hki 1
  have e2 := @kid_is f a hki 2
  have e3 := @kid_is f a hki 3
  have e4 := @kid_is f a hki ((nth f.Nodes a).Kids.length - 1)
  have e5 := @kid_is f a hki ((nth f.Nodes a).Kids.length - 2)
  simp (maxSteps := 10000000) -implicitDefEqProofs +contextual (disch := omega) only [e_impl_nodeOk, u_impl_nodeOk, rr_impl_nodeOk, hK, hs, he, hc, nodes, ints, strs, ups, Node.cells, Fn.cells, ↓XD, XU, refs, goneIn, Nat.beq, Nat.ble, List.isEmpty, ↓reduceIte, sevalprocAttr, ei_statement, ei_expression, ei_IsNaN, hl, ea1, ea2, ei_is, ei_kind]
  refine some_bool ?_
  simp only [Shape, Stmt, Expr, hK, hs, he, Bare, exprs_one, exprs_two, exprs_three, exprs_all f a hki (Int.le_refl 0), stats_all f a hki, Bool.and_eq_true, Bool.or_eq_true, Bool.not_eq_true', decide_eq_false_iff_not, decide_eq_true_eq, Int.reduceEq, false_and, and_false, false_or, or_false, true_and, and_true, Bool.false_eq_true, not_true, not_false_eq_true]
  clear hl ea1 ea2
  grind
theorem nk_10 (hK : (nth f.Nodes a).Kind = 10) : EP A n_impl_nodeOk [.agg f.cells, .int .i64 a] = some (.bool (decide (Shape f.Nodes a))) := by
  have hs : isStat 10 := by simp only [isStat]; omega
  have he : ¬isExpr 10 := by simp only [isExpr]; omega
  have hki' : ∀ i : Int, 0 ≤ i → i < (nth f.Nodes a).Kids.length → 0 ≤ nth (nth f.Nodes a).Kids i ∧ nth (nth f.Nodes a).Kids i < f.Nodes.length := fun i i0 i1 => by have := hki i i0 i1; omega
  have ea1 := fun f0 p0 p1 p2 p3 p4 p5 q0 q1 q2 q3 q4 q5 q6 h0 h1 c hc => ei_all n_impl_expression isExpr ei_expression f0 f.Nodes (nth f.Nodes a).Kids p0 p1 p2 p3 p4 p5 q0 q1 q2 q3 q4 q5 q6 h0 h1 hk c hc hki'
  have ea2 := fun f0 p0 p1 p2 p3 p4 p5 q0 q1 q2 q3 q4 q5 q6 h0 h1 c hc => ei_all n_impl_statement isStat ei_statement f0 f.Nodes (nth f.Nodes a).Kids p0 p1 p2 p3 p4 p5 q0 q1 q2 q3 q4 q5 q6 h0 h1 hk c hc hki'
  have k0 := hki' 0
  have k1 := hki' 1
  have k2 := hki' 2
  have k3 := hki' 3
  have k4 := hki' ((nth f.Nodes a).Kids.length - 1)
  have k5 := hki' ((nth f.Nodes a).Kids.length - 2)
  have e0 := @kid_is f a hki 0
  have e1 := @kid_is f a hki 1
  have e2 := @kid_is f a hki 2
  have e3 := @kid_is f a hki 3
  have e4 := @kid_is f a hki ((nth f.Nodes a).Kids.length - 1)
  have e5 := @kid_is f a hki ((nth f.Nodes a).Kids.length - 2)
  simp (maxSteps := 10000000) -implicitDefEqProofs +contextual (disch := omega) only [e_impl_nodeOk, u_impl_nodeOk, rr_impl_nodeOk, hK, hs, he, hc, nodes, ints, strs, ups, Node.cells, Fn.cells, ↓XD, XU, refs, goneIn, Nat.beq, Nat.ble, List.isEmpty, ↓reduceIte, sevalprocAttr, ei_statement, ei_expression, ei_IsNaN, hl, ea1, ea2, ei_is, ei_kind]
  refine some_bool ?_
  simp only [Shape, Stmt, Expr, hK, hs, he, Bare, exprs_one, exprs_two, exprs_three, exprs_all f a hki (Int.le_refl 0), stats_all f a hki, Bool.and_eq_true, Bool.or_eq_true, Bool.not_eq_true', decide_eq_false_iff_not, decide_eq_true_eq, Int.reduceEq, false_and, and_false, false_or, or_false, true_and, and_true, Bool.false_eq_true, not_true, not_false_eq_true]
  clear hl ea1 ea2
  grind
theorem nk_11 (hK : (nth f.Nodes a).Kind = 11) : EP A n_impl_nodeOk [.agg f.cells, .int .i64 a] = some (.bool (decide (Shape f.Nodes a))) := by
  have hs : isStat 11 := by simp only [isStat]; omega
  have he : ¬isExpr 11 := by simp only [isExpr]; omega
  have hki' : ∀ i : Int, 0 ≤ i → i < (nth f.Nodes a).Kids.length → 0 ≤ nth (nth f.Nodes a).Kids i ∧ nth (nth f.Nodes a).Kids i < f.Nodes.length := fun i i0 i1 => by have := hki i i0 i1; omega
  have ea1 := fun f0 p0 p1 p2 p3 p4 p5 q0 q1 q2 q3 q4 q5 q6 h0 h1 c hc => ei_all n_impl_expression isExpr ei_expression f0 f.Nodes (nth f.Nodes a).Kids p0 p1 p2 p3 p4 p5 q0 q1 q2 q3 q4 q5 q6 h0 h1 hk c hc hki'
  have ea2 := fun f0 p0 p1 p2 p3 p4 p5 q0 q1 q2 q3 q4 q5 q6 h0 h1 c hc => ei_all n_impl_statement isStat ei_statement f0 f.Nodes (nth f.Nodes a).Kids p0 p1 p2 p3 p4 p5 q0 q1 q2 q3 q4 q5 q6 h0 h1 hk c hc hki'
  have k0 := hki' 0
  have k1 := hki' 1
  have k2 := hki' 2
  have k3 := hki' 3
  have k4 := hki' ((nth f.Nodes a).Kids.length - 1)
  have k5 := hki' ((nth f.Nodes a).Kids.length - 2)
  have e0 := @kid_is f a hki 0
  have e1 := @kid_is f a hki 1
  have e2 := @kid_is f a hki 2
  have e3 := @kid_is f a hki 3
  have e4 := @kid_is f a hki ((nth f.Nodes a).Kids.length - 1)
  have e5 := @kid_is f a hki ((nth f.Nodes a).Kids.length - 2)
  simp (maxSteps := 10000000) -implicitDefEqProofs +contextual (disch := omega) only [e_impl_nodeOk, u_impl_nodeOk, rr_impl_nodeOk, hK, hs, he, hc, nodes, ints, strs, ups, Node.cells, Fn.cells, ↓XD, XU, refs, goneIn, Nat.beq, Nat.ble, List.isEmpty, ↓reduceIte, sevalprocAttr, ei_statement, ei_expression, ei_IsNaN, hl, ea1, ea2, ei_is, ei_kind]
  refine some_bool ?_
  simp only [Shape, Stmt, Expr, hK, hs, he, Bare, exprs_one, exprs_two, exprs_three, exprs_all f a hki (Int.le_refl 0), stats_all f a hki, Bool.and_eq_true, Bool.or_eq_true, Bool.not_eq_true', decide_eq_false_iff_not, decide_eq_true_eq, Int.reduceEq, false_and, and_false, false_or, or_false, true_and, and_true, Bool.false_eq_true, not_true, not_false_eq_true]
  clear hl ea1 ea2
  grind
theorem nk_12 (hK : (nth f.Nodes a).Kind = 12) : EP A n_impl_nodeOk [.agg f.cells, .int .i64 a] = some (.bool (decide (Shape f.Nodes a))) := by
  have hs : isStat 12 := by simp only [isStat]; omega
  have he : ¬isExpr 12 := by simp only [isExpr]; omega
  have hki' : ∀ i : Int, 0 ≤ i → i < (nth f.Nodes a).Kids.length → 0 ≤ nth (nth f.Nodes a).Kids i ∧ nth (nth f.Nodes a).Kids i < f.Nodes.length := fun i i0 i1 => by have := hki i i0 i1; omega
  have ea1 := fun f0 p0 p1 p2 p3 p4 p5 q0 q1 q2 q3 q4 q5 q6 h0 h1 c hc => ei_all n_impl_expression isExpr ei_expression f0 f.Nodes (nth f.Nodes a).Kids p0 p1 p2 p3 p4 p5 q0 q1 q2 q3 q4 q5 q6 h0 h1 hk c hc hki'
  have ea2 := fun f0 p0 p1 p2 p3 p4 p5 q0 q1 q2 q3 q4 q5 q6 h0 h1 c hc => ei_all n_impl_statement isStat ei_statement f0 f.Nodes (nth f.Nodes a).Kids p0 p1 p2 p3 p4 p5 q0 q1 q2 q3 q4 q5 q6 h0 h1 hk c hc hki'
  have k0 := hki' 0
  have k1 := hki' 1
  have k2 := hki' 2
  have k3 := hki' 3
  have k4 := hki' ((nth f.Nodes a).Kids.length - 1)
  have k5 := hki' ((nth f.Nodes a).Kids.length - 2)
  have e0 := @kid_is f a hki 0
  have e1 := @kid_is f a hki 1
  have e2 := @kid_is f a hki 2
  have e3 := @kid_is f a hki 3
  have e4 := @kid_is f a hki ((nth f.Nodes a).Kids.length - 1)
  have e5 := @kid_is f a hki ((nth f.Nodes a).Kids.length - 2)
  simp (maxSteps := 10000000) -implicitDefEqProofs +contextual (disch := omega) only [e_impl_nodeOk, u_impl_nodeOk, rr_impl_nodeOk, hK, hs, he, hc, nodes, ints, strs, ups, Node.cells, Fn.cells, ↓XD, XU, refs, goneIn, Nat.beq, Nat.ble, List.isEmpty, ↓reduceIte, sevalprocAttr, ei_statement, ei_expression, ei_IsNaN, hl, ea1, ea2, ei_is, ei_kind]
  refine some_bool ?_
  simp only [Shape, Stmt, Expr, hK, hs, he, Bare, exprs_one, exprs_two, exprs_three, exprs_all f a hki (Int.le_refl 0), stats_all f a hki, Bool.and_eq_true, Bool.or_eq_true, Bool.not_eq_true', decide_eq_false_iff_not, decide_eq_true_eq, Int.reduceEq, false_and, and_false, false_or, or_false, true_and, and_true, Bool.false_eq_true, not_true, not_false_eq_true]
  clear hl ea1 ea2
  grind
theorem nk_13 (hK : (nth f.Nodes a).Kind = 13) : EP A n_impl_nodeOk [.agg f.cells, .int .i64 a] = some (.bool (decide (Shape f.Nodes a))) := by
  have hs : isStat 13 := by simp only [isStat]; omega
  have he : ¬isExpr 13 := by simp only [isExpr]; omega
  have hki' : ∀ i : Int, 0 ≤ i → i < (nth f.Nodes a).Kids.length → 0 ≤ nth (nth f.Nodes a).Kids i ∧ nth (nth f.Nodes a).Kids i < f.Nodes.length := fun i i0 i1 => by have := hki i i0 i1; omega
  have ea1 := fun f0 p0 p1 p2 p3 p4 p5 q0 q1 q2 q3 q4 q5 q6 h0 h1 c hc => ei_all n_impl_expression isExpr ei_expression f0 f.Nodes (nth f.Nodes a).Kids p0 p1 p2 p3 p4 p5 q0 q1 q2 q3 q4 q5 q6 h0 h1 hk c hc hki'
  have ea2 := fun f0 p0 p1 p2 p3 p4 p5 q0 q1 q2 q3 q4 q5 q6 h0 h1 c hc => ei_all n_impl_statement isStat ei_statement f0 f.Nodes (nth f.Nodes a).Kids p0 p1 p2 p3 p4 p5 q0 q1 q2 q3 q4 q5 q6 h0 h1 hk c hc hki'
  have k0 := hki' 0
  have k1 := hki' 1
  have k2 := hki' 2
  have k3 := hki' 3
  have k4 := hki' ((nth f.Nodes a).Kids.length - 1)
  have k5 := hki' ((nth f.Nodes a).Kids.length - 2)
  have e0 := @kid_is f a hki 0
  have e1 := @kid_is f a hki 1
  have e2 := @kid_is f a hki 2
  have e3 := @kid_is f a hki 3
  have e4 := @kid_is f a hki ((nth f.Nodes a).Kids.length - 1)
  have e5 := @kid_is f a hki ((nth f.Nodes a).Kids.length - 2)
  simp (maxSteps := 10000000) -implicitDefEqProofs +contextual (disch := omega) only [e_impl_nodeOk, u_impl_nodeOk, rr_impl_nodeOk, hK, hs, he, hc, nodes, ints, strs, ups, Node.cells, Fn.cells, ↓XD, XU, refs, goneIn, Nat.beq, Nat.ble, List.isEmpty, ↓reduceIte, sevalprocAttr, ei_statement, ei_expression, ei_IsNaN, hl, ea1, ea2, ei_is, ei_kind]
  refine some_bool ?_
  simp only [Shape, Stmt, Expr, hK, hs, he, Bare, exprs_one, exprs_two, exprs_three, exprs_all f a hki (Int.le_refl 0), stats_all f a hki, Bool.and_eq_true, Bool.or_eq_true, Bool.not_eq_true', decide_eq_false_iff_not, decide_eq_true_eq, Int.reduceEq, false_and, and_false, false_or, or_false, true_and, and_true, Bool.false_eq_true, not_true, not_false_eq_true]
  clear hl ea1 ea2
  grind
theorem nk_14 (hK : (nth f.Nodes a).Kind = 14) : EP A n_impl_nodeOk [.agg f.cells, .int .i64 a] = some (.bool (decide (Shape f.Nodes a))) := by
  have hs : isStat 14 := by simp only [isStat]; omega
  have he : ¬isExpr 14 := by simp only [isExpr]; omega
  have hki' : ∀ i : Int, 0 ≤ i → i < (nth f.Nodes a).Kids.length → 0 ≤ nth (nth f.Nodes a).Kids i ∧ nth (nth f.Nodes a).Kids i < f.Nodes.length := fun i i0 i1 => by have := hki i i0 i1; omega
  have ea1 := fun f0 p0 p1 p2 p3 p4 p5 q0 q1 q2 q3 q4 q5 q6 h0 h1 c hc => ei_all n_impl_expression isExpr ei_expression f0 f.Nodes (nth f.Nodes a).Kids p0 p1 p2 p3 p4 p5 q0 q1 q2 q3 q4 q5 q6 h0 h1 hk c hc hki'
  have ea2 := fun f0 p0 p1 p2 p3 p4 p5 q0 q1 q2 q3 q4 q5 q6 h0 h1 c hc => ei_all n_impl_statement isStat ei_statement f0 f.Nodes (nth f.Nodes a).Kids p0 p1 p2 p3 p4 p5 q0 q1 q2 q3 q4 q5 q6 h0 h1 hk c hc hki'
  have k0 := hki' 0
  have k1 := hki' 1
  have k2 := hki' 2
  have k3 := hki' 3
  have k4 := hki' ((nth f.Nodes a).Kids.length - 1)
  have k5 := hki' ((nth f.Nodes a).Kids.length - 2)
  have e0 := @kid_is f a hki 0
  have e1 := @kid_is f a hki 1
  have e2 := @kid_is f a hki 2
  have e3 := @kid_is f a hki 3
  have e4 := @kid_is f a hki ((nth f.Nodes a).Kids.length - 1)
  have e5 := @kid_is f a hki ((nth f.Nodes a).Kids.length - 2)
  simp (maxSteps := 10000000) -implicitDefEqProofs +contextual (disch := omega) only [e_impl_nodeOk, u_impl_nodeOk, rr_impl_nodeOk, hK, hs, he, hc, nodes, ints, strs, ups, Node.cells, Fn.cells, ↓XD, XU, refs, goneIn, Nat.beq, Nat.ble, List.isEmpty, ↓reduceIte, sevalprocAttr, ei_statement, ei_expression, ei_IsNaN, hl, ea1, ea2, ei_is, ei_kind]
  refine some_bool ?_
  simp only [Shape, Stmt, Expr, hK, hs, he, Bare, exprs_one, exprs_two, exprs_three, exprs_all f a hki (Int.le_refl 0), stats_all f a hki, Bool.and_eq_true, Bool.or_eq_true, Bool.not_eq_true', decide_eq_false_iff_not, decide_eq_true_eq, Int.reduceEq, false_and, and_false, false_or, or_false, true_and, and_true, Bool.false_eq_true, not_true, not_false_eq_true]
  clear hl ea1 ea2
  grind
theorem nk_20 (hK : (nth f.Nodes a).Kind = 20) : EP A n_impl_nodeOk [.agg f.cells, .int .i64 a] = some (.bool (decide (Shape f.Nodes a))) := by
  have hs : ¬isStat 20 := by simp only [isStat]; omega
  have he : isExpr 20 := by simp only [isExpr]; omega
  have hki' : ∀ i : Int, 0 ≤ i → i < (nth f.Nodes a).Kids.length → 0 ≤ nth (nth f.Nodes a).Kids i ∧ nth (nth f.Nodes a).Kids i < f.Nodes.length := fun i i0 i1 => by have := hki i i0 i1; omega
  have ea1 := fun f0 p0 p1 p2 p3 p4 p5 q0 q1 q2 q3 q4 q5 q6 h0 h1 c hc => ei_all n_impl_expression isExpr ei_expression f0 f.Nodes (nth f.Nodes a).Kids p0 p1 p2 p3 p4 p5 q0 q1 q2 q3 q4 q5 q6 h0 h1 hk c hc hki'
  have ea2 := fun f0 p0 p1 p2 p3 p4 p5 q0 q1 q2 q3 q4 q5 q6 h0 h1 c hc => ei_all n_impl_statement isStat ei_statement f0 f.Nodes (nth f.Nodes a).Kids p0 p1 p2 p3 p4 p5 q0 q1 q2 q3 q4 q5 q6 h0 h1 hk c hc hki'
  have k0 := hki' 0
  have k1 := hki' 1
  have k2 := hki' 2
  have k3 := hki' 3
  have k4 := hki' ((nth f.Nodes a).Kids.length - 1)
  have k5 := hki' ((nth f.Nodes a).Kids.length - 2)
  have e0 := @kid_is f a hki 0
  have e1 := @kid_is f a hki 1
  have e2 := @kid_is f a hki 2
  have e3 := @kid_is f a hki 3
  have e4 := @kid_is f a hki ((nth f.Nodes a).Kids.length - 1)
  have e5 := @kid_is f a hki ((nth f.Nodes a).Kids.length - 2)
  simp (maxSteps := 10000000) -implicitDefEqProofs +contextual (disch := omega) only [e_impl_nodeOk, u_impl_nodeOk, rr_impl_nodeOk, hK, hs, he, hc, nodes, ints, strs, ups, Node.cells, Fn.cells, ↓XD, XU, refs, goneIn, Nat.beq, Nat.ble, List.isEmpty, ↓reduceIte, sevalprocAttr, ei_statement, ei_expression, ei_IsNaN, hl, ea1, ea2, ei_is, ei_kind]
  refine some_bool ?_
  simp only [Shape, Stmt, Expr, hK, hs, he, Bare, exprs_one, exprs_two, exprs_three, exprs_all f a hki (Int.le_refl 0), stats_all f a hki, Bool.and_eq_true, Bool.or_eq_true, Bool.not_eq_true', decide_eq_false_iff_not, decide_eq_true_eq, Int.reduceEq, false_and, and_false, false_or, or_false, true_and, and_true, Bool.false_eq_true, not_true, not_false_eq_true]
  clear hl ea1 ea2
  grind
theorem nk_21 (hK : (nth f.Nodes a).Kind = 21) : EP A n_impl_nodeOk [.agg f.cells, .int .i64 a] = some (.bool (decide (Shape f.Nodes a))) := by
  have hs : ¬isStat 21 := by simp only [isStat]; omega
  have he : isExpr 21 := by simp only [isExpr]; omega
  have hki' : ∀ i : Int, 0 ≤ i → i < (nth f.Nodes a).Kids.length → 0 ≤ nth (nth f.Nodes a).Kids i ∧ nth (nth f.Nodes a).Kids i < f.Nodes.length := fun i i0 i1 => by have := hki i i0 i1; omega
  have ea1 := fun f0 p0 p1 p2 p3 p4 p5 q0 q1 q2 q3 q4 q5 q6 h0 h1 c hc => ei_all n_impl_expression isExpr ei_expression f0 f.Nodes (nth f.Nodes a).Kids p0 p1 p2 p3 p4 p5 q0 q1 q2 q3 q4 q5 q6 h0 h1 hk c hc hki'
  have ea2 := fun f0 p0 p1 p2 p3 p4 p5 q0 q1 q2 q3 q4 q5 q6 h0 h1 c hc => ei_all n_impl_statement isStat ei_statement f0 f.Nodes (nth f.Nodes a).Kids p0 p1 p2 p3 p4 p5 q0 q1 q2 q3 q4 q5 q6 h0 h1 hk c hc hki'
  have k0 := hki' 0
  have k1 := hki' 1
  have k2 := hki' 2
  have k3 := hki' 3
  have k4 := hki' ((nth f.Nodes a).Kids.length - 1)
  have k5 := hki' ((nth f.Nodes a).Kids.length - 2)
  have e0 := @kid_is f a hki 0
  have e1 := @kid_is f a hki 1
  have e2 := @kid_is f a hki 2
  have e3 := @kid_is f a hki 3
  have e4 := @kid_is f a hki ((nth f.Nodes a).Kids.length - 1)
  have e5 := @kid_is f a hki ((nth f.Nodes a).Kids.length - 2)
  simp (maxSteps := 10000000) -implicitDefEqProofs +contextual (disch := omega) only [e_impl_nodeOk, u_impl_nodeOk, rr_impl_nodeOk, hK, hs, he, hc, nodes, ints, strs, ups, Node.cells, Fn.cells, ↓XD, XU, refs, goneIn, Nat.beq, Nat.ble, List.isEmpty, ↓reduceIte, sevalprocAttr, ei_statement, ei_expression, ei_IsNaN, hl, ea1, ea2, ei_is, ei_kind]
  refine some_bool ?_
  simp only [Shape, Stmt, Expr, hK, hs, he, Bare, exprs_one, exprs_two, exprs_three, exprs_all f a hki (Int.le_refl 0), stats_all f a hki, Bool.and_eq_true, Bool.or_eq_true, Bool.not_eq_true', decide_eq_false_iff_not, decide_eq_true_eq, Int.reduceEq, false_and, and_false, false_or, or_false, true_and, and_true, Bool.false_eq_true, not_true, not_false_eq_true]
  clear hl ea1 ea2
  grind
theorem nk_22 (hK : (nth f.Nodes a).Kind = 22) : EP A n_impl_nodeOk [.agg f.cells, .int .i64 a] = some (.bool (decide (Shape f.Nodes a))) := by
  have hs : ¬isStat 22 := by simp only [isStat]; omega
  have he : isExpr 22 := by simp only [isExpr]; omega
  have hki' : ∀ i : Int, 0 ≤ i → i < (nth f.Nodes a).Kids.length → 0 ≤ nth (nth f.Nodes a).Kids i ∧ nth (nth f.Nodes a).Kids i < f.Nodes.length := fun i i0 i1 => by have := hki i i0 i1; omega
  have ea1 := fun f0 p0 p1 p2 p3 p4 p5 q0 q1 q2 q3 q4 q5 q6 h0 h1 c hc => ei_all n_impl_expression isExpr ei_expression f0 f.Nodes (nth f.Nodes a).Kids p0 p1 p2 p3 p4 p5 q0 q1 q2 q3 q4 q5 q6 h0 h1 hk c hc hki'
  have ea2 := fun f0 p0 p1 p2 p3 p4 p5 q0 q1 q2 q3 q4 q5 q6 h0 h1 c hc => ei_all n_impl_statement isStat ei_statement f0 f.Nodes (nth f.Nodes a).Kids p0 p1 p2 p3 p4 p5 q0 q1 q2 q3 q4 q5 q6 h0 h1 hk c hc hki'
  have k0 := hki' 0
  have k1 := hki' 1
  have k2 := hki' 2
  have k3 := hki' 3
  have k4 := hki' ((nth f.Nodes a).Kids.length - 1)
  have k5 := hki' ((nth f.Nodes a).Kids.length - 2)
  have e0 := @kid_is f a hki 0
  have e1 := @kid_is f a hki 1
  have e2 := @kid_is f a hki 2
  have e3 := @kid_is f a hki 3
  have e4 := @kid_is f a hki ((nth f.Nodes a).Kids.length - 1)
  have e5 := @kid_is f a hki ((nth f.Nodes a).Kids.length - 2)
  simp (maxSteps := 10000000) -implicitDefEqProofs +contextual (disch := omega) only [e_impl_nodeOk, u_impl_nodeOk, rr_impl_nodeOk, hK, hs, he, hc, nodes, ints, strs, ups, Node.cells, Fn.cells, ↓XD, XU, refs, goneIn, Nat.beq, Nat.ble, List.isEmpty, ↓reduceIte, sevalprocAttr, ei_statement, ei_expression, ei_IsNaN, hl, ea1, ea2, ei_is, ei_kind]
  refine some_bool ?_
  simp only [Shape, Stmt, Expr, hK, hs, he, Bare, exprs_one, exprs_two, exprs_three, exprs_all f a hki (Int.le_refl 0), stats_all f a hki, Bool.and_eq_true, Bool.or_eq_true, Bool.not_eq_true', decide_eq_false_iff_not, decide_eq_true_eq, Int.reduceEq, false_and, and_false, false_or, or_false, true_and, and_true, Bool.false_eq_true, not_true, not_false_eq_true]
  clear hl ea1 ea2
  grind
theorem nk_23 (hK : (nth f.Nodes a).Kind = 23) : EP A n_impl_nodeOk [.agg f.cells, .int .i64 a] = some (.bool (decide (Shape f.Nodes a))) := by
  have hs : ¬isStat 23 := by simp only [isStat]; omega
  have he : isExpr 23 := by simp only [isExpr]; omega
  have hki' : ∀ i : Int, 0 ≤ i → i < (nth f.Nodes a).Kids.length → 0 ≤ nth (nth f.Nodes a).Kids i ∧ nth (nth f.Nodes a).Kids i < f.Nodes.length := fun i i0 i1 => by have := hki i i0 i1; omega
  have ea1 := fun f0 p0 p1 p2 p3 p4 p5 q0 q1 q2 q3 q4 q5 q6 h0 h1 c hc => ei_all n_impl_expression isExpr ei_expression f0 f.Nodes (nth f.Nodes a).Kids p0 p1 p2 p3 p4 p5 q0 q1 q2 q3 q4 q5 q6 h0 h1 hk c hc hki'
  have ea2 := fun f0 p0 p1 p2 p3 p4 p5 q0 q1 q2 q3 q4 q5 q6 h0 h1 c hc => ei_all n_impl_statement isStat ei_statement f0 f.Nodes (nth f.Nodes a).Kids p0 p1 p2 p3 p4 p5 q0 q1 q2 q3 q4 q5 q6 h0 h1 hk c hc hki'
  have k0 := hki' 0
  have k1 := hki' 1
  have k2 := hki' 2
  have k3 := hki' 3
  have k4 := hki' ((nth f.Nodes a).Kids.length - 1)
  have k5 := hki' ((nth f.Nodes a).Kids.length - 2)
  have e0 := @kid_is f a hki 0
  have e1 := @kid_is f a hki 1
  have e2 := @kid_is f a hki 2
  have e3 := @kid_is f a hki 3
  have e4 := @kid_is f a hki ((nth f.Nodes a).Kids.length - 1)
  have e5 := @kid_is f a hki ((nth f.Nodes a).Kids.length - 2)
  simp (maxSteps := 10000000) -implicitDefEqProofs +contextual (disch := omega) only [e_impl_nodeOk, u_impl_nodeOk, rr_impl_nodeOk, hK, hs, he, hc, nodes, ints, strs, ups, Node.cells, Fn.cells, ↓XD, XU, refs, goneIn, Nat.beq, Nat.ble, List.isEmpty, ↓reduceIte, sevalprocAttr, ei_statement, ei_expression, ei_IsNaN, hl, ea1, ea2, ei_is, ei_kind]
  refine some_bool ?_
  simp only [Shape, Stmt, Expr, hK, hs, he, Bare, exprs_one, exprs_two, exprs_three, exprs_all f a hki (Int.le_refl 0), stats_all f a hki, Bool.and_eq_true, Bool.or_eq_true, Bool.not_eq_true', decide_eq_false_iff_not, decide_eq_true_eq, Int.reduceEq, false_and, and_false, false_or, or_false, true_and, and_true, Bool.false_eq_true, not_true, not_false_eq_true]
  clear hl ea1 ea2
  grind
theorem nk_24 (hK : (nth f.Nodes a).Kind = 24) : EP A n_impl_nodeOk [.agg f.cells, .int .i64 a] = some (.bool (decide (Shape f.Nodes a))) := by
  have hs : ¬isStat 24 := by simp only [isStat]; omega
  have he : isExpr 24 := by simp only [isExpr]; omega
  have hki' : ∀ i : Int, 0 ≤ i → i < (nth f.Nodes a).Kids.length → 0 ≤ nth (nth f.Nodes a).Kids i ∧ nth (nth f.Nodes a).Kids i < f.Nodes.length := fun i i0 i1 => by have := hki i i0 i1; omega
  have ea1 := fun f0 p0 p1 p2 p3 p4 p5 q0 q1 q2 q3 q4 q5 q6 h0 h1 c hc => ei_all n_impl_expression isExpr ei_expression f0 f.Nodes (nth f.Nodes a).Kids p0 p1 p2 p3 p4 p5 q0 q1 q2 q3 q4 q5 q6 h0 h1 hk c hc hki'
  have ea2 := fun f0 p0 p1 p2 p3 p4 p5 q0 q1 q2 q3 q4 q5 q6 h0 h1 c hc => ei_all n_impl_statement isStat ei_statement f0 f.Nodes (nth f.Nodes a).Kids p0 p1 p2 p3 p4 p5 q0 q1 q2 q3 q4 q5 q6 h0 h1 hk c hc hki'
  have k0 := hki' 0
  have k1 := hki' 1
  have k2 := hki' 2
  have k3 := hki' 3
  have k4 := hki' ((nth f.Nodes a).Kids.length - 1)
  have k5 := hki' ((nth f.Nodes a).Kids.length - 2)
  have e0 := @kid_is f a hki 0
  have e1 := @kid_is f a hki 1
  have e2 := @kid_is f a hki 2
  have e3 := @kid_is f a hki 3
  have e4 := @kid_is f a hki ((nth f.Nodes a).Kids.length - 1)
  have e5 := @kid_is f a hki ((nth f.Nodes a).Kids.length - 2)
  simp (maxSteps := 10000000) -implicitDefEqProofs +contextual (disch := omega) only [e_impl_nodeOk, u_impl_nodeOk, rr_impl_nodeOk, hK, hs, he, hc, nodes, ints, strs, ups, Node.cells, Fn.cells, ↓XD, XU, refs, goneIn, Nat.beq, Nat.ble, List.isEmpty, ↓reduceIte, sevalprocAttr, ei_statement, ei_expression, ei_IsNaN, hl, ea1, ea2, ei_is, ei_kind]
  refine some_bool ?_
  simp only [Shape, Stmt, Expr, hK, hs, he, Bare, exprs_one, exprs_two, exprs_three, exprs_all f a hki (Int.le_refl 0), stats_all f a hki, Bool.and_eq_true, Bool.or_eq_true, Bool.not_eq_true', decide_eq_false_iff_not, decide_eq_true_eq, Int.reduceEq, false_and, and_false, false_or, or_false, true_and, and_true, Bool.false_eq_true, not_true, not_false_eq_true]
  clear hl ea1 ea2
  grind
theorem nk_25 (hK : (nth f.Nodes a).Kind = 25) : EP A n_impl_nodeOk [.agg f.cells, .int .i64 a] = some (.bool (decide (Shape f.Nodes a))) := by
  have hs : ¬isStat 25 := by simp only [isStat]; omega
  have he : isExpr 25 := by simp only [isExpr]; omega
  have hki' : ∀ i : Int, 0 ≤ i → i < (nth f.Nodes a).Kids.length → 0 ≤ nth (nth f.Nodes a).Kids i ∧ nth (nth f.Nodes a).Kids i < f.Nodes.length := fun i i0 i1 => by have := hki i i0 i1; omega
  have ea1 := fun f0 p0 p1 p2 p3 p4 p5 q0 q1 q2 q3 q4 q5 q6 h0 h1 c hc => ei_all n_impl_expression isExpr ei_expression f0 f.Nodes (nth f.Nodes a).Kids p0 p1 p2 p3 p4 p5 q0 q1 q2 q3 q4 q5 q6 h0 h1 hk c hc hki'
  have ea2 := fun f0 p0 p1 p2 p3 p4 p5 q0 q1 q2 q3 q4 q5 q6 h0 h1 c hc => ei_all n_impl_statement isStat ei_statement f0 f.Nodes (nth f.Nodes a).Kids p0 p1 p2 p3 p4 p5 q0 q1 q2 q3 q4 q5 q6 h0 h1 hk c hc hki'
  have k0 := hki' 0
  have k1 := hki' 1
  have k2 := hki' 2
  have k3 := hki' 3
  have k4 := hki' ((nth f.Nodes a).Kids.length - 1)
  have k5 := hki' ((nth f.Nodes a).Kids.length - 2)
  have e0 := @kid_is f a hki 0
  have e1 := @kid_is f a hki 1
  have e2 := @kid_is f a hki 2
  have e3 := @kid_is f a hki 3
  have e4 := @kid_is f a hki ((nth f.Nodes a).Kids.length - 1)
  have e5 := @kid_is f a hki ((nth f.Nodes a).Kids.length - 2)
  simp (maxSteps := 10000000) -implicitDefEqProofs +contextual (disch := omega) only [e_impl_nodeOk, u_impl_nodeOk, rr_impl_nodeOk, hK, hs, he, hc, nodes, ints, strs, ups, Node.cells, Fn.cells, ↓XD, XU, refs, goneIn, Nat.beq, Nat.ble, List.isEmpty, ↓reduceIte, sevalprocAttr, ei_statement, ei_expression, ei_IsNaN, hl, ea1, ea2, ei_is, ei_kind]
  refine some_bool ?_
  simp only [Shape, Stmt, Expr, hK, hs, he, Bare, exprs_one, exprs_two, exprs_three, exprs_all f a hki (Int.le_refl 0), stats_all f a hki, Bool.and_eq_true, Bool.or_eq_true, Bool.not_eq_true', decide_eq_false_iff_not, decide_eq_true_eq, Int.reduceEq, false_and, and_false, false_or, or_false, true_and, and_true, Bool.false_eq_true, not_true, not_false_eq_true]
  clear hl ea1 ea2
  grind
theorem nk_26 (hK : (nth f.Nodes a).Kind = 26) : EP A n_impl_nodeOk [.agg f.cells, .int .i64 a] = some (.bool (decide (Shape f.Nodes a))) := by
  have hs : ¬isStat 26 := by simp only [isStat]; omega
  have he : isExpr 26 := by simp only [isExpr]; omega
  have hki' : ∀ i : Int, 0 ≤ i → i < (nth f.Nodes a).Kids.length → 0 ≤ nth (nth f.Nodes a).Kids i ∧ nth (nth f.Nodes a).Kids i < f.Nodes.length := fun i i0 i1 => by have := hki i i0 i1; omega
  have ea1 := fun f0 p0 p1 p2 p3 p4 p5 q0 q1 q2 q3 q4 q5 q6 h0 h1 c hc => ei_all n_impl_expression isExpr ei_expression f0 f.Nodes (nth f.Nodes a).Kids p0 p1 p2 p3 p4 p5 q0 q1 q2 q3 q4 q5 q6 h0 h1 hk c hc hki'
  have ea2 := fun f0 p0 p1 p2 p3 p4 p5 q0 q1 q2 q3 q4 q5 q6 h0 h1 c hc => ei_all n_impl_statement isStat ei_statement f0 f.Nodes (nth f.Nodes a).Kids p0 p1 p2 p3 p4 p5 q0 q1 q2 q3 q4 q5 q6 h0 h1 hk c hc hki'
  have k0 := hki' 0
  have k1 := hki' 1
  have k2 := hki' 2
  have k3 := hki' 3
  have k4 := hki' ((nth f.Nodes a).Kids.length - 1)
  have k5 := hki' ((nth f.Nodes a).Kids.length - 2)
  have e0 := @kid_is f a hki 0
  have e1 := @kid_is f a hki 1
  have e2 := @kid_is f a hki 2
  have e3 := @kid_is f a hki 3
  have e4 := @kid_is f a hki ((nth f.Nodes a).Kids.length - 1)
  have e5 := @kid_is f a hki ((nth f.Nodes a).Kids.length - 2)
  simp (maxSteps := 10000000) -implicitDefEqProofs +contextual (disch := omega) only [e_impl_nodeOk, u_impl_nodeOk, rr_impl_nodeOk, hK, hs, he, hc, nodes, ints, strs, ups, Node.cells, Fn.cells, ↓XD, XU, refs, goneIn, Nat.beq, Nat.ble, List.isEmpty, ↓reduceIte, sevalprocAttr, ei_statement, ei_expression, ei_IsNaN, hl, ea1, ea2, ei_is, ei_kind]
  refine some_bool ?_
  simp only [Shape, Stmt, Expr, hK, hs, he, Bare, exprs_one, exprs_two, exprs_three, exprs_all f a hki (Int.le_refl 0), stats_all f a hki, Bool.and_eq_true, Bool.or_eq_true, Bool.not_eq_true', decide_eq_false_iff_not, decide_eq_true_eq, Int.reduceEq, false_and, and_false, false_or, or_false, true_and, and_true, Bool.false_eq_true, not_true, not_false_eq_true]
  clear hl ea1 ea2
  grind
theorem nk_27 (hK : (nth f.Nodes a).Kind = 27) : EP A n_impl_nodeOk [.agg f.cells, .int .i64 a] = some (.bool (decide (Shape f.Nodes a))) := by
  have hs : ¬isStat 27 := by simp only [isStat]; omega
  have he : isExpr 27 := by simp only [isExpr]; omega
  have hki' : ∀ i : Int, 0 ≤ i → i < (nth f.Nodes a).Kids.length → 0 ≤ nth (nth f.Nodes a).Kids i ∧ nth (nth f.Nodes a).Kids i < f.Nodes.length := fun i i0 i1 => by have := hki i i0 i1; omega
  have ea1 := fun f0 p0 p1 p2 p3 p4 p5 q0 q1 q2 q3 q4 q5 q6 h0 h1 c hc => ei_all n_impl_expression isExpr ei_expression f0 f.Nodes (nth f.Nodes a).Kids p0 p1 p2 p3 p4 p5 q0 q1 q2 q3 q4 q5 q6 h0 h1 hk c hc hki'
  have ea2 := fun f0 p0 p1 p2 p3 p4 p5 q0 q1 q2 q3 q4 q5 q6 h0 h1 c hc => ei_all n_impl_statement isStat ei_statement f0 f.Nodes (nth f.Nodes a).Kids p0 p1 p2 p3 p4 p5 q0 q1 q2 q3 q4 q5 q6 h0 h1 hk c hc hki'
  have k0 := hki' 0
  have k1 := hki' 1
  have k2 := hki' 2
  have k3 := hki' 3
  have k4 := hki' ((nth f.Nodes a).Kids.length - 1)
  have k5 := hki' ((nth f.Nodes a).Kids.length - 2)
  have e0 := @kid_is f a hki 0
  have e1 := @kid_is f a hki 1
  have e2 := @kid_is f a hki 2
  have e3 := @kid_is f a hki 3
  have e4 := @kid_is f a hki ((nth f.Nodes a).Kids.length - 1)
  have e5 := @kid_is f a hki ((nth f.Nodes a).Kids.length - 2)
  simp (maxSteps := 10000000) -implicitDefEqProofs +contextual (disch := omega) only [e_impl_nodeOk, u_impl_nodeOk, rr_impl_nodeOk, hK, hs, he, hc, nodes, ints, strs, ups, Node.cells, Fn.cells, ↓XD, XU, refs, goneIn, Nat.beq, Nat.ble, List.isEmpty, ↓reduceIte, sevalprocAttr, ei_statement, ei_expression, ei_IsNaN, hl, ea1, ea2, ei_is, ei_kind]
  refine some_bool ?_
  simp only [Shape, Stmt, Expr, hK, hs, he, Bare, exprs_one, exprs_two, exprs_three, exprs_all f a hki (Int.le_refl 0), stats_all f a hki, Bool.and_eq_true, Bool.or_eq_true, Bool.not_eq_true', decide_eq_false_iff_not, decide_eq_true_eq, Int.reduceEq, false_and, and_false, false_or, or_false, true_and, and_true, Bool.false_eq_true, not_true, not_false_eq_true]
  clear hl ea1 ea2
  grind
theorem nk_28 (hK : (nth f.Nodes a).Kind = 28) : EP A n_impl_nodeOk [.agg f.cells, .int .i64 a] = some (.bool (decide (Shape f.Nodes a))) := by
  have hs : ¬isStat 28 := by simp only [isStat]; omega
  have he : isExpr 28 := by simp only [isExpr]; omega
  have hki' : ∀ i : Int, 0 ≤ i → i < (nth f.Nodes a).Kids.length → 0 ≤ nth (nth f.Nodes a).Kids i ∧ nth (nth f.Nodes a).Kids i < f.Nodes.length := fun i i0 i1 => by have := hki i i0 i1; omega
  have ea1 := fun f0 p0 p1 p2 p3 p4 p5 q0 q1 q2 q3 q4 q5 q6 h0 h1 c hc => ei_all n_impl_expression isExpr ei_expression f0 f.Nodes (nth f.Nodes a).Kids p0 p1 p2 p3 p4 p5 q0 q1 q2 q3 q4 q5 q6 h0 h1 hk c hc hki'
  have ea2 := fun f0 p0 p1 p2 p3 p4 p5 q0 q1 q2 q3 q4 q5 q6 h0 h1 c hc => ei_all n_impl_statement isStat ei_statement f0 f.Nodes (nth f.Nodes a).Kids p0 p1 p2 p3 p4 p5 q0 q1 q2 q3 q4 q5 q6 h0 h1 hk c hc hki'
  have k0 := hki' 0
  have k1 := hki' 1
  have k2 := hki' 2
  have k3 := hki' 3
  have k4 := hki' ((nth f.Nodes a).Kids.length - 1)
  have k5 := hki' ((nth f.Nodes a).Kids.length - 2)
  have e0 := @kid_is f a hki 0
  have e1 := @kid_is f a hki 1
  have e2 := @kid_is f a hki 2
  have e3 := @kid_is f a hki 3
  have e4 := @kid_is f a hki ((nth f.Nodes a).Kids.length - 1)
  have e5 := @kid_is f a hki ((nth f.Nodes a).Kids.length - 2)
  simp (maxSteps := 10000000) -implicitDefEqProofs +contextual (disch := omega) only [e_impl_nodeOk, u_impl_nodeOk, rr_impl_nodeOk, hK, hs, he, hc, nodes, ints, strs, ups, Node.cells, Fn.cells, ↓XD, XU, refs, goneIn, Nat.beq, Nat.ble, List.isEmpty, ↓reduceIte, sevalprocAttr, ei_statement, ei_expression, ei_IsNaN, hl, ea1, ea2, ei_is, ei_kind]
  refine some_bool ?_
  simp only [Shape, Stmt, Expr, hK, hs, he, Bare, exprs_one, exprs_two, exprs_three, exprs_all f a hki (Int.le_refl 0), stats_all f a hki, Bool.and_eq_true, Bool.or_eq_true, Bool.not_eq_true', decide_eq_false_iff_not, decide_eq_true_eq, Int.reduceEq, false_and, and_false, false_or, or_false, true_and, and_true, Bool.false_eq_true, not_true, not_false_eq_true]
  clear hl ea1 ea2
  grind
theorem nk_29 (hK : (nth f.Nodes a).Kind = 29) : EP A n_impl_nodeOk [.agg f.cells, .int .i64 a] = some (.bool (decide (Shape f.Nodes a))) := by
  have hs : ¬isStat 29 := by simp only [isStat]; omega
  have he : isExpr 29 := by simp only [isExpr]; omega
  have hki' : ∀ i : Int, 0 ≤ i → i < (nth f.Nodes a).Kids.length → 0 ≤ nth (nth f.Nodes a).Kids i ∧ nth (nth f.Nodes a).Kids i < f.Nodes.length := fun i i0 i1 => by have := hki i i0 i1; omega
  have ea1 := fun f0 p0 p1 p2 p3 p4 p5 q0 q1 q2 q3 q4 q5 q6 h0 h1 c hc => ei_all n_impl_expression isExpr ei_expression f0 f.Nodes (nth f.Nodes a).Kids p0 p1 p2 p3 p4 p5 q0 q1 q2 q3 q4 q5 q6 h0 h1 hk c hc hki'
  have ea2 := fun f0 p0 p1 p2 p3 p4 p5 q0 q1 q2 q3 q4 q5 q6 h0 h1 c hc => ei_all n_impl_statement isStat ei_statement f0 f.Nodes (nth f.Nodes a).Kids p0 p1 p2 p3 p4 p5 q0 q1 q2 q3 q4 q5 q6 h0 h1 hk c hc hki'
  have k0 := hki' 0
  have k1 := hki' 1
  have k2 := hki' 2
  have k3 := hki' 3
  have k4 := hki' ((nth f.Nodes a).Kids.length - 1)
  have k5 := hki' ((nth f.Nodes a).Kids.length - 2)
  have e0 := @kid_is f a hki 0
  have e1 := @kid_is f a hki 1
  have e2 := @kid_is f a hki 2
  have e3 := @kid_is f a hki 3
  have e4 := @kid_is f a hki ((nth f.Nodes a).Kids.length - 1)
  have e5 := @kid_is f a hki ((nth f.Nodes a).Kids.length - 2)
  simp (maxSteps := 10000000) -implicitDefEqProofs +contextual (disch := omega) only [e_impl_nodeOk, u_impl_nodeOk, rr_impl_nodeOk, hK, hs, he, hc, nodes, ints, strs, ups, Node.cells, Fn.cells, ↓XD, XU, refs, goneIn, Nat.beq, Nat.ble, List.isEmpty, ↓reduceIte, sevalprocAttr, ei_statement, ei_expression, ei_IsNaN, hl, ea1, ea2, ei_is, ei_kind]
  have x2 : ((nth f.Nodes a).Kids.length : Int) = 2 → (Exprs f.Nodes a 0 2 ↔ IAll isExpr f.Nodes (nth f.Nodes a).Kids 0) := fun e => by rw [← exprs_all f a hki (Int.le_refl 0), e]
  refine some_bool ?_
  simp only [Shape, Stmt, Expr, hK, hs, he, Bare, exprs_all f a hki (Int.le_refl 0), stats_all f a hki, Bool.and_eq_true, Bool.or_eq_true, Bool.not_eq_true', decide_eq_false_iff_not, decide_eq_true_eq, Int.reduceEq, false_and, and_false, false_or, or_false, true_and, and_true, Bool.false_eq_true, not_true, not_false_eq_true]
  clear hl ea1 ea2
  grind
theorem nk_30 (hK : (nth f.Nodes a).Kind = 30) : EP A n_impl_nodeOk [.agg f.cells, .int .i64 a] = some (.bool (decide (Shape f.Nodes a))) := by
  have hs : ¬isStat 30 := by simp only [isStat]; omega
  have he : isExpr 30 := by simp only [isExpr]; omega
  have hki' : ∀ i : Int, 0 ≤ i → i < (nth f.Nodes a).Kids.length → 0 ≤ nth (nth f.Nodes a).Kids i ∧ nth (nth f.Nodes a).Kids i < f.Nodes.length := fun i i0 i1 => by have := hki i i0 i1; omega
  have ea1 := fun f0 p0 p1 p2 p3 p4 p5 q0 q1 q2 q3 q4 q5 q6 h0 h1 c hc => ei_all n_impl_expression isExpr ei_expression f0 f.Nodes (nth f.Nodes a).Kids p0 p1 p2 p3 p4 p5 q0 q1 q2 q3 q4 q5 q6 h0 h1 hk c hc hki'
  have ea2 := fun f0 p0 p1 p2 p3 p4 p5 q0 q1 q2 q3 q4 q5 q6 h0 h1 c hc => ei_all n_impl_statement isStat ei_statement f0 f.Nodes (nth f.Nodes a).Kids p0 p1 p2 p3 p4 p5 q0 q1 q2 q3 q4 q5 q6 h0 h1 hk c hc hki'
  have k0 := hki' 0
  have k1 := hki' 1
  have k2 := hki' 2
  have k3 := hki' 3
  have k4 := hki' ((nth f.Nodes a).Kids.length - 1)
  have k5 := hki' ((nth f.Nodes a).Kids.length - 2)
  have e0 := @kid_is f a hki 0
  have e1 := @kid_is f a hki 1
  have e2 := @kid_is f a hki 2
  have e3 := @kid_is f a hki 3
  have e4 := @kid_is f a hki ((nth f.Nodes a).Kids.length - 1)
  have e5 := @kid_is f a hki ((nth f.Nodes a).Kids.length - 2)
  simp (maxSteps := 10000000) -implicitDefEqProofs +contextual (disch := omega) only [e_impl_nodeOk, u_impl_nodeOk, rr_impl_nodeOk, hK, hs, he, hc, nodes, ints, strs, ups, Node.cells, Fn.cells, ↓XD, XU, refs, goneIn, Nat.beq, Nat.ble, List.isEmpty, ↓reduceIte, sevalprocAttr, ei_statement, ei_expression, ei_IsNaN, hl, ea1, ea2, ei_is, ei_kind]
  have x2 : ((nth f.Nodes a).Kids.length : Int) = 2 → (Exprs f.Nodes a 0 2 ↔ IAll isExpr f.Nodes (nth f.Nodes a).Kids 0) := fun e => by rw [← exprs_all f a hki (Int.le_refl 0), e]
  refine some_bool ?_
  simp only [Shape, Stmt, Expr, hK, hs, he, Bare, exprs_all f a hki (Int.le_refl 0), stats_all f a hki, Bool.and_eq_true, Bool.or_eq_true, Bool.not_eq_true', decide_eq_false_iff_not, decide_eq_true_eq, Int.reduceEq, false_and, and_false, false_or, or_false, true_and, and_true, Bool.false_eq_true, not_true, not_false_eq_true]
  clear hl ea1 ea2
  grind
theorem nk_31 (hK : (nth f.Nodes a).Kind = 31) : EP A n_impl_nodeOk [.agg f.cells, .int .i64 a] = some (.bool (decide (Shape f.Nodes a))) := by
  have hs : ¬isStat 31 := by simp only [isStat]; omega
  have he : isExpr 31 := by simp only [isExpr]; omega
  have hki' : ∀ i : Int, 0 ≤ i → i < (nth f.Nodes a).Kids.length → 0 ≤ nth (nth f.Nodes a).Kids i ∧ nth (nth f.Nodes a).Kids i < f.Nodes.length := fun i i0 i1 => by have := hki i i0 i1; omega
  have ea1 := fun f0 p0 p1 p2 p3 p4 p5 q0 q1 q2 q3 q4 q5 q6 h0 h1 c hc => ei_all n_impl_expression isExpr ei_expression f0 f.Nodes (nth f.Nodes a).Kids p0 p1 p2 p3 p4 p5 q0 q1 q2 q3 q4 q5 q6 h0 h1 hk c hc hki'
  have ea2 := fun f0 p0 p1 p2 p3 p4 p5 q0 q1 q2 q3 q4 q5 q6 h0 h1 c hc => ei_all n_impl_statement isStat ei_statement f0 f.Nodes (nth f.Nodes a).Kids p0 p1 p2 p3 p4 p5 q0 q1 q2 q3 q4 q5 q6 h0 h1 hk c hc hki'
  have k0 := hki' 0
  have k1 := hki' 1
  have k2 := hki' 2
  have k3 := hki' 3
  have k4 := hki' ((nth f.Nodes a).Kids.length - 1)
  have k5 := hki' ((nth f.Nodes a).Kids.length - 2)
  have e0 := @kid_is f a hki 0
  have e1 := @kid_is f a hki 1
  have e2 := @kid_is f a hki 2
  have e3 := @kid_is f a hki 3
  have e4 := @kid_is f a hki ((nth f.Nodes a).Kids.length - 1)
  have e5 := @kid_is f a hki ((nth f.Nodes a).Kids.length - 2)
  simp (maxSteps := 10000000) -implicitDefEqProofs +contextual (disch := omega) only [e_impl_nodeOk, u_impl_nodeOk, rr_impl_nodeOk, hK, hs, he, hc, nodes, ints, strs, ups, Node.cells, Fn.cells, ↓XD, XU, refs, goneIn, Nat.beq, Nat.ble, List.isEmpty, ↓reduceIte, sevalprocAttr, ei_statement, ei_expression, ei_IsNaN, hl, ea1, ea2, ei_is, ei_kind]
  have x2 : ((nth f.Nodes a).Kids.length : Int) = 1 → (Exprs f.Nodes a 0 1 ↔ IAll isExpr f.Nodes (nth f.Nodes a).Kids 0) := fun e => by rw [← exprs_all f a hki (Int.le_refl 0), e]
  refine some_bool ?_
  simp only [Shape, Stmt, Expr, hK, hs, he, Bare, exprs_all f a hki (Int.le_refl 0), stats_all f a hki, Bool.and_eq_true, Bool.or_eq_true, Bool.not_eq_true', decide_eq_false_iff_not, decide_eq_true_eq, Int.reduceEq, false_and, and_false, false_or, or_false, true_and, and_true, Bool.false_eq_true, not_true, not_false_eq_true]
  clear hl ea1 ea2
  grind
theorem nk_32 (hK : (nth f.Nodes a).Kind = 32) : EP A n_impl_nodeOk [.agg f.cells, .int .i64 a] = some (.bool (decide (Shape f.Nodes a))) := by
  have hs : ¬isStat 32 := by simp only [isStat]; omega
  have he : isExpr 32 := by simp only [isExpr]; omega
  have hki' : ∀ i : Int, 0 ≤ i → i < (nth f.Nodes a).Kids.length → 0 ≤ nth (nth f.Nodes a).Kids i ∧ nth (nth f.Nodes a).Kids i < f.Nodes.length := fun i i0 i1 => by have := hki i i0 i1; omega
  have ea1 := fun f0 p0 p1 p2 p3 p4 p5 q0 q1 q2 q3 q4 q5 q6 h0 h1 c hc => ei_all n_impl_expression isExpr ei_expression f0 f.Nodes (nth f.Nodes a).Kids p0 p1 p2 p3 p4 p5 q0 q1 q2 q3 q4 q5 q6 h0 h1 hk c hc hki'
  have ea2 := fun f0 p0 p1 p2 p3 p4 p5 q0 q1 q2 q3 q4 q5 q6 h0 h1 c hc => ei_all n_impl_statement isStat ei_statement f0 f.Nodes (nth f.Nodes a).Kids p0 p1 p2 p3 p4 p5 q0 q1 q2 q3 q4 q5 q6 h0 h1 hk c hc hki'
  have k0 := hki' 0
  have k1 := hki' 1
  have k2 := hki' 2
  have k3 := hki' 3
  have k4 := hki' ((nth f.Nodes a).Kids.length - 1)
  have k5 := hki' ((nth f.Nodes a).Kids.length - 2)
  have e0 := @kid_is f a hki 0
  have e1 := @kid_is f a hki 1
  have e2 := @kid_is f a hki 2
  have e3 := @kid_is f a hki 3
  have e4 := @kid_is f a hki ((nth f.Nodes a).Kids.length - 1)
  have e5 := @kid_is f a hki ((nth f.Nodes a).Kids.length - 2)
  simp (maxSteps := 10000000) -implicitDefEqProofs +contextual (disch := omega) only [e_impl_nodeOk, u_impl_nodeOk, rr_impl_nodeOk, hK, hs, he, hc, nodes, ints, strs, ups, Node.cells, Fn.cells, ↓XD, XU, refs, goneIn, Nat.beq, Nat.ble, List.isEmpty, ↓reduceIte, sevalprocAttr, ei_statement, ei_expression, ei_IsNaN, hl, ea1, ea2, ei_is, ei_kind]
  have x2 : ((nth f.Nodes a).Kids.length : Int) = 2 → (Exprs f.Nodes a 0 2 ↔ IAll isExpr f.Nodes (nth f.Nodes a).Kids 0) := fun e => by rw [← exprs_all f a hki (Int.le_refl 0), e]
  refine some_bool ?_
  simp only [Shape, Stmt, Expr, hK, hs, he, Bare, exprs_all f a hki (Int.le_refl 0), stats_all f a hki, Bool.and_eq_true, Bool.or_eq_true, Bool.not_eq_true', decide_eq_false_iff_not, decide_eq_true_eq, Int.reduceEq, false_and, and_false, false_or, or_false, true_and, and_true, Bool.false_eq_true, not_true, not_false_eq_true]
  clear hl ea1 ea2
  grind
theorem nk_33 (hK : (nth f.Nodes a).Kind = 33) : EP A n_impl_nodeOk [.agg f.cells, .int .i64 a] = some (.bool (decide (Shape f.Nodes a))) := by
  have hs : ¬isStat 33 := by simp only [isStat]; omega
  have he : isExpr 33 := by simp only [isExpr]; omega
  have hki' : ∀ i : Int, 0 ≤ i → i < (nth f.Nodes a).Kids.length → 0 ≤ nth (nth f.Nodes a).Kids i ∧ nth (nth f.Nodes a).Kids i < f.Nodes.length := fun i i0 i1 => by have := hki i i0 i1; omega
  have ea1 := fun f0 p0 p1 p2 p3 p4 p5 q0 q1 q2 q3 q4 q5 q6 h0 h1 c hc => ei_all n_impl_expression isExpr ei_expression f0 f.Nodes (nth f.Nodes a).Kids p0 p1 p2 p3 p4 p5 q0 q1 q2 q3 q4 q5 q6 h0 h1 hk c hc hki'
  have ea2 := fun f0 p0 p1 p2 p3 p4 p5 q0 q1 q2 q3 q4 q5 q6 h0 h1 c hc => ei_all n_impl_statement isStat ei_statement f0 f.Nodes (nth f.Nodes a).Kids p0 p1 p2 p3 p4 p5 q0 q1 q2 q3 q4 q5 q6 h0 h1 hk c hc hki'
  have k0 := hki' 0
  have k1 := hki' 1
  have k2 := hki' 2
  have k3 := hki' 3
  have k4 := hki' ((nth f.Nodes a).Kids.length - 1)
  have k5 := hki' ((nth f.Nodes a).Kids.length - 2)
  have e0 := @kid_is f a hki 0
  have e1 := @kid_is f a hki 1
  have e2 := @kid_is f a hki 2
  have e3 := @kid_is f a hki 3
  have e4 := @kid_is f a hki ((nth f.Nodes a).Kids.length - 1)
  have e5 := @kid_is f a hki ((nth f.Nodes a).Kids.length - 2)
  simp (maxSteps := 10000000) -implicitDefEqProofs +contextual (disch := omega) only [e_impl_nodeOk, u_impl_nodeOk, rr_impl_nodeOk, hK, hs, he, hc, nodes, ints, strs, ups, Node.cells, Fn.cells, ↓XD, XU, refs, goneIn, Nat.beq, Nat.ble, List.isEmpty, ↓reduceIte, sevalprocAttr, ei_statement, ei_expression, ei_IsNaN, hl, ea1, ea2, ei_is, ei_kind]
  have x2 : ((nth f.Nodes a).Kids.length : Int) = 2 → (Exprs f.Nodes a 0 2 ↔ IAll isExpr f.Nodes (nth f.Nodes a).Kids 0) := fun e => by rw [← exprs_all f a hki (Int.le_refl 0), e]
  refine some_bool ?_
  simp only [Shape, Stmt, Expr, hK, hs, he, Bare, exprs_all f a hki (Int.le_refl 0), stats_all f a hki, Bool.and_eq_true, Bool.or_eq_true, Bool.not_eq_true', decide_eq_false_iff_not, decide_eq_true_eq, Int.reduceEq, false_and, and_false, false_or, or_false, true_and, and_true, Bool.false_eq_true, not_true, not_false_eq_true]
  clear hl ea1 ea2
  grind
theorem nk_34 (hK : (nth f.Nodes a).Kind = 34) : EP A n_impl_nodeOk [.agg f.cells, .int .i64 a] = some (.bool (decide (Shape f.Nodes a))) := by
  have hs : ¬isStat 34 := by simp only [isStat]; omega
  have he : isExpr 34 := by simp only [isExpr]; omega
  have hki' : ∀ i : Int, 0 ≤ i → i < (nth f.Nodes a).Kids.length → 0 ≤ nth (nth f.Nodes a).Kids i ∧ nth (nth f.Nodes a).Kids i < f.Nodes.length := fun i i0 i1 => by have := hki i i0 i1; omega
  have ea1 := fun f0 p0 p1 p2 p3 p4 p5 q0 q1 q2 q3 q4 q5 q6 h0 h1 c hc => ei_all n_impl_expression isExpr ei_expression f0 f.Nodes (nth f.Nodes a).Kids p0 p1 p2 p3 p4 p5 q0 q1 q2 q3 q4 q5 q6 h0 h1 hk c hc hki'
  have ea2 := fun f0 p0 p1 p2 p3 p4 p5 q0 q1 q2 q3 q4 q5 q6 h0 h1 c hc => ei_all n_impl_statement isStat ei_statement f0 f.Nodes (nth f.Nodes a).Kids p0 p1 p2 p3 p4 p5 q0 q1 q2 q3 q4 q5 q6 h0 h1 hk c hc hki'
  have k0 := hki' 0
  have k1 := hki' 1
  have k2 := hki' 2
  have k3 := hki' 3
  have k4 := hki' ((nth f.Nodes a).Kids.length - 1)
  have k5 := hki' ((nth f.Nodes a).Kids.length - 2)
  have e0 := @kid_is f a hki 0
  have e1 := @kid_is f a hki 1
  have e2 := @kid_is f a hki 2
  have e3 := @kid_is f a hki 3
  have e4 := @kid_is f a hki ((nth f.Nodes a).Kids.length - 1)
  have e5 := @kid_is f a hki ((nth f.Nodes a).Kids.length - 2)
  simp (maxSteps := 10000000) -implicitDefEqProofs +contextual (disch := omega) only [e_impl_nodeOk, u_impl_nodeOk, rr_impl_nodeOk, hK, hs, he, hc, nodes, ints, strs, ups, Node.cells, Fn.cells, ↓XD, XU, refs, goneIn, Nat.beq, Nat.ble, List.isEmpty, ↓reduceIte, sevalprocAttr, ei_statement, ei_expression, ei_IsNaN, hl, ea1, ea2, ei_is, ei_kind]
  refine some_bool ?_
  simp only [Shape, Stmt, Expr, hK, hs, he, Bare, exprs_one, exprs_two, exprs_three, exprs_all f a hki (Int.le_refl 0), stats_all f a hki, Bool.and_eq_true, Bool.or_eq_true, Bool.not_eq_true', decide_eq_false_iff_not, decide_eq_true_eq, Int.reduceEq, false_and, and_false, false_or, or_false, true_and, and_true, Bool.false_eq_true, not_true, not_false_eq_true]
  clear hl ea1 ea2
  grind
theorem nk_35 (hK : (nth f.Nodes a).Kind = 35) : EP A n_impl_nodeOk [.agg f.cells, .int .i64 a] = some (.bool (decide (Shape f.Nodes a))) := by
  have hs : ¬isStat 35 := by simp only [isStat]; omega
  have he : isExpr 35 := by simp only [isExpr]; omega
  have hki' : ∀ i : Int, 0 ≤ i → i < (nth f.Nodes a).Kids.length → 0 ≤ nth (nth f.Nodes a).Kids i ∧ nth (nth f.Nodes a).Kids i < f.Nodes.length := fun i i0 i1 => by have := hki i i0 i1; omega
  have ea1 := fun f0 p0 p1 p2 p3 p4 p5 q0 q1 q2 q3 q4 q5 q6 h0 h1 c hc => ei_all n_impl_expression isExpr ei_expression f0 f.Nodes (nth f.Nodes a).Kids p0 p1 p2 p3 p4 p5 q0 q1 q2 q3 q4 q5 q6 h0 h1 hk c hc hki'
  have ea2 := fun f0 p0 p1 p2 p3 p4 p5 q0 q1 q2 q3 q4 q5 q6 h0 h1 c hc => ei_all n_impl_statement isStat ei_statement f0 f.Nodes (nth f.Nodes a).Kids p0 p1 p2 p3 p4 p5 q0 q1 q2 q3 q4 q5 q6 h0 h1 hk c hc hki'
  have k0 := hki' 0
  have k1 := hki' 1
  have k2 := hki' 2
  have k3 := hki' 3
  have k4 := hki' ((nth f.Nodes a).Kids.length - 1)
  have k5 := hki' ((nth f.Nodes a).Kids.length - 2)
  have e0 := @kid_is f a hki 0
  have e1 := @kid_is f a hki 1
  have e2 := @kid_is f a hki 2
  have e3 := @kid_is f a hki 3
  have e4 := @kid_is f a hki ((nth f.Nodes a).Kids.length - 1)
  have e5 := @kid_is f a hki ((nth f.Nodes a).Kids.length - 2)
  simp (maxSteps := 10000000) -implicitDefEqProofs +contextual (disch := omega) only [e_impl_nodeOk, u_impl_nodeOk, rr_impl_nodeOk, hK, hs, he, hc, nodes, ints, strs, ups, Node.cells, Fn.cells, ↓XD, XU, refs, goneIn, Nat.beq, Nat.ble, List.isEmpty, ↓reduceIte, sevalprocAttr, ei_statement, ei_expression, ei_IsNaN, hl, ea1, ea2, ei_is, ei_kind]
  refine some_bool ?_
  simp only [Shape, Stmt, Expr, hK, hs, he, Bare, exprs_one, exprs_two, exprs_three, exprs_all f a hki (Int.le_refl 0), stats_all f a hki, Bool.and_eq_true, Bool.or_eq_true, Bool.not_eq_true', decide_eq_false_iff_not, decide_eq_true_eq, Int.reduceEq, false_and, and_false, false_or, or_false, true_and, and_true, Bool.false_eq_true, not_true, not_false_eq_true]
  clear hl ea1 ea2
  grind
theorem nk_36 (hK : (nth f.Nodes a).Kind = 36) : EP A n_impl_nodeOk [.agg f.cells, .int .i64 a] = some (.bool (decide (Shape f.Nodes a))) := by
  have hs : ¬isStat 36 := by simp only [isStat]; omega
  have he : isExpr 36 := by simp only [isExpr]; omega
  have hki' : ∀ i : Int, 0 ≤ i → i < (nth f.Nodes a).Kids.length → 0 ≤ nth (nth f.Nodes a).Kids i ∧ nth (nth f.Nodes a).Kids i < f.Nodes.length := fun i i0 i1 => by have := hki i i0 i1; omega
  have ea1 := fun f0 p0 p1 p2 p3 p4 p5 q0 q1 q2 q3 q4 q5 q6 h0 h1 c hc => ei_all n_impl_expression isExpr ei_expression f0 f.Nodes (nth f.Nodes a).Kids p0 p1 p2 p3 p4 p5 q0 q1 q2 q3 q4 q5 q6 h0 h1 hk c hc hki'
  have ea2 := fun f0 p0 p1 p2 p3 p4 p5 q0 q1 q2 q3 q4 q5 q6 h0 h1 c hc => ei_all n_impl_statement isStat ei_statement f0 f.Nodes (nth f.Nodes a).Kids p0 p1 p2 p3 p4 p5 q0 q1 q2 q3 q4 q5 q6 h0 h1 hk c hc hki'
  have k0 := hki' 0
  have k1 := hki' 1
  have k2 := hki' 2
  have k3 := hki' 3
  have k4 := hki' ((nth f.Nodes a).Kids.length - 1)
  have k5 := hki' ((nth f.Nodes a).Kids.length - 2)
  have e0 := @kid_is f a hki 0
  have e1 := @kid_is f a hki 1
  have e2 := @kid_is f a hki 2
  have e3 := @kid_is f a hki 3
  have e4 := @kid_is f a hki ((nth f.Nodes a).Kids.length - 1)
  have e5 := @kid_is f a hki ((nth f.Nodes a).Kids.length - 2)
  simp (maxSteps := 10000000) -implicitDefEqProofs +contextual (disch := omega) only [e_impl_nodeOk, u_impl_nodeOk, rr_impl_nodeOk, hK, hs, he, hc, nodes, ints, strs, ups, Node.cells, Fn.cells, ↓XD, XU, refs, goneIn, Nat.beq, Nat.ble, List.isEmpty, ↓reduceIte, sevalprocAttr, ei_statement, ei_expression, ei_IsNaN, hl, ea1, ea2, ei_is, ei_kind]
  refine some_bool ?_
  simp only [Shape, Stmt, Expr, hK, hs, he, Bare, exprs_one, exprs_two, exprs_three, exprs_all f a hki (Int.le_refl 0), stats_all f a hki, Bool.and_eq_true, Bool.or_eq_true, Bool.not_eq_true', decide_eq_false_iff_not, decide_eq_true_eq, Int.reduceEq, false_and, and_false, false_or, or_false, true_and, and_true, Bool.false_eq_true, not_true, not_false_eq_true]
  clear hl ea1 ea2
  grind
theorem nk_37 (hK : (nth f.Nodes a).Kind = 37) : EP A n_impl_nodeOk [.agg f.cells, .int .i64 a] = some (.bool (decide (Shape f.Nodes a))) := by
  have hs : ¬isStat 37 := by simp only [isStat]; omega
  have he : isExpr 37 := by simp only [isExpr]; omega
  have hki' : ∀ i : Int, 0 ≤ i → i < (nth f.Nodes a).Kids.length → 0 ≤ nth (nth f.Nodes a).Kids i ∧ nth (nth f.Nodes a).Kids i < f.Nodes.length := fun i i0 i1 => by have := hki i i0 i1; omega
  have ea1 := fun f0 p0 p1 p2 p3 p4 p5 q0 q1 q2 q3 q4 q5 q6 h0 h1 c hc => ei_all n_impl_expression isExpr ei_expression f0 f.Nodes (nth f.Nodes a).Kids p0 p1 p2 p3 p4 p5 q0 q1 q2 q3 q4 q5 q6 h0 h1 hk c hc hki'
  have ea2 := fun f0 p0 p1 p2 p3 p4 p5 q0 q1 q2 q3 q4 q5 q6 h0 h1 c hc => ei_all n_impl_statement isStat ei_statement f0 f.Nodes (nth f.Nodes a).Kids p0 p1 p2 p3 p4 p5 q0 q1 q2 q3 q4 q5 q6 h0 h1 hk c hc hki'
  have k0 := hki' 0
  have k1 := hki' 1
  have k2 := hki' 2
  have k3 := hki' 3
  have k4 := hki' ((nth f.Nodes a).Kids.length - 1)
  have k5 := hki' ((nth f.Nodes a).Kids.length - 2)
  have e0 := @kid_is f a hki 0
  have e1 := @kid_is f a hki 1
  have e2 := @kid_is f a hki 2
  have e3 := @kid_is f a hki 3
  have e4 := @kid_is f a hki ((nth f.Nodes a).Kids.length - 1)
  have e5 := @kid_is f a hki ((nth f.Nodes a).Kids.length - 2)
  simp (maxSteps := 10000000) -implicitDefEqProofs +contextual (disch := omega) only [e_impl_nodeOk, u_impl_nodeOk, rr_impl_nodeOk, hK, hs, he, hc, nodes, ints, strs, ups, Node.cells, Fn.cells, ↓XD, XU, refs, goneIn, Nat.beq, Nat.ble, List.isEmpty, ↓reduceIte, sevalprocAttr, ei_statement, ei_expression, ei_IsNaN, hl, ea1, ea2, ei_is, ei_kind]
  refine some_bool ?_
  simp only [Shape, Stmt, Expr, hK, hs, he, Bare, exprs_one, exprs_two, exprs_three, exprs_all f a hki (Int.le_refl 0), stats_all f a hki, Bool.and_eq_true, Bool.or_eq_true, Bool.not_eq_true', decide_eq_false_iff_not, decide_eq_true_eq, Int.reduceEq, false_and, and_false, false_or, or_false, true_and, and_true, Bool.false_eq_true, not_true, not_false_eq_true]
  clear hl ea1 ea2
  grind
theorem nk_38 (hK : (nth f.Nodes a).Kind = 38) : EP A n_impl_nodeOk [.agg f.cells, .int .i64 a] = some (.bool (decide (Shape f.Nodes a))) := by
  have hs : ¬isStat 38 := by simp only [isStat]; omega
  have he : isExpr 38 := by simp only [isExpr]; omega
  have hki' : ∀ i : Int, 0 ≤ i → i < (nth f.Nodes a).Kids.length → 0 ≤ nth (nth f.Nodes a).Kids i ∧ nth (nth f.Nodes a).Kids i < f.Nodes.length := fun i i0 i1 => by have := hki i i0 i1; omega
  have ea1 := fun f0 p0 p1 p2 p3 p4 p5 q0 q1 q2 q3 q4 q5 q6 h0 h1 c hc => ei_all n_impl_expression isExpr ei_expression f0 f.Nodes (nth f.Nodes a).Kids p0 p1 p2 p3 p4 p5 q0 q1 q2 q3 q4 q5 q6 h0 h1 hk c hc hki'
  have ea2 := fun f0 p0 p1 p2 p3 p4 p5 q0 q1 q2 q3 q4 q5 q6 h0 h1 c hc => ei_all n_impl_statement isStat ei_statement f0 f.Nodes (nth f.Nodes a).Kids p0 p1 p2 p3 p4 p5 q0 q1 q2 q3 q4 q5 q6 h0 h1 hk c hc hki'
  have k0 := hki' 0
  have k1 := hki' 1
  have k2 := hki' 2
  have k3 := hki' 3
  have k4 := hki' ((nth f.Nodes a).Kids.length - 1)
  have k5 := hki' ((nth f.Nodes a).Kids.length - 2)
  have e0 := @kid_is f a hki 0
  have e1 := @kid_is f a hki 1
  have e2 := @kid_is f a hki 2
  have e3 := @kid_is f a hki 3
  have e4 := @kid_is f a hki ((nth f.Nodes a).Kids.length - 1)
  have e5 := @kid_is f a hki ((nth f.Nodes a).Kids.length - 2)
  simp (maxSteps := 10000000) -implicitDefEqProofs +contextual (disch := omega) only [e_impl_nodeOk, u_impl_nodeOk, rr_impl_nodeOk, hK, hs, he, hc, nodes, ints, strs, ups, Node.cells, Fn.cells, ↓XD, XU, refs, goneIn, Nat.beq, Nat.ble, List.isEmpty, ↓reduceIte, sevalprocAttr, ei_statement, ei_expression, ei_IsNaN, hl, ea1, ea2, ei_is, ei_kind]
  refine some_bool ?_
  simp only [Shape, Stmt, Expr, hK, hs, he, Bare, exprs_one, exprs_two, exprs_three, exprs_all f a hki (Int.le_refl 0), stats_all f a hki, Bool.and_eq_true, Bool.or_eq_true, Bool.not_eq_true', decide_eq_false_iff_not, decide_eq_true_eq, Int.reduceEq, false_and, and_false, false_or, or_false, true_and, and_true, Bool.false_eq_true, not_true, not_false_eq_true]
  clear hl ea1 ea2
  grind
end
end Go.Proofs.Try.Av
end
section
attribute [local congr] ite_congr
set_option linter.unusedSimpArgs false
set_option linter.unusedVariables false
set_option maxRecDepth 10000
set_option maxHeartbeats 4000000
namespace Go.Proofs.Try.Av
open Go Go.Av Classical
theorem li_nodeOk1 (f : Fn) (a : Int) (h0 : 0 ≤ a) (h1 : a < f.Nodes.length) (hk : (nth f.Nodes a).Kids.length ≤ 1048576) (hki : ∀ i : Int, 0 ≤ i → i < (nth f.Nodes a).Kids.length → 0 ≤ nth (nth f.Nodes a).Kids i ∧ nth (nth f.Nodes a).Kids i < f.Nodes.length) (n1 : 1 ≤ (nth f.Nodes a).Num) (n2 : (nth f.Nodes a).Num < (nth f.Nodes a).Kids.length) : match seek (fun (j : Int) => (¬ikind f.Nodes (nth f.Nodes a).Kids j = 26 ∧ ¬ikind f.Nodes (nth f.Nodes a).Kids j = 27) ∧ ¬ikind f.Nodes (nth f.Nodes a).Kids j = 33) 0 (nth f.Nodes a).Num with | some j => ∃ st, EV A (.loop (B_impl_nodeOk 1)) (⟨[(0, .agg f.cells), (1, .int .i64 a), (2, .ptr 0 0 0 1), (4, .bool false), (5, .ptr 1 0 0 1), (67, ints (nth f.Nodes a).Kids), (68, .int .i64 (nth f.Nodes a).Kids.length), (69, .int .i64 (nth f.Nodes a).Kids.length), (8, .ptr 2 0 0 1), (9, .ptr 3 0 0 1), (10, .fn n_impl_nodeOk_S2 [.ptr 3 0 0 1, .ptr 2 0 0 1]), (11, .fn n_impl_nodeOk_S3 [.ptr 2 0 0 1]), (12, .int .i64 (nth f.Nodes a).Refs.length), (13, .bool false), (14, .bool true), (15, .bool false), (16, .bool false), (17, .int .i64 0), (18, .int .i64 0), (19, .bool false), (91, .int .i64 3), (113, .int .i64 (nth f.Nodes a).Num), (114, .int .i64 (0))], [], [.cells 7 [f.cells], .cells 8 [(nth f.Nodes a).cells], .cells 1 [[.fn n_impl_nodeOk_S1 [.ptr 0 0 0 1, .ptr 1 0 0 1]]], .cells 1 [[.int .i64 (nth f.Nodes a).Kids.length]]], []⟩ : St) = some (.ret, st) ∧ st.per.get 4 = .bool false | none => EV A (.loop (B_impl_nodeOk 1)) (⟨[(0, .agg f.cells), (1, .int .i64 a), (2, .ptr 0 0 0 1), (4, .bool false), (5, .ptr 1 0 0 1), (67, ints (nth f.Nodes a).Kids), (68, .int .i64 (nth f.Nodes a).Kids.length), (69, .int .i64 (nth f.Nodes a).Kids.length), (8, .ptr 2 0 0 1), (9, .ptr 3 0 0 1), (10, .fn n_impl_nodeOk_S2 [.ptr 3 0 0 1, .ptr 2 0 0 1]), (11, .fn n_impl_nodeOk_S3 [.ptr 2 0 0 1]), (12, .int .i64 (nth f.Nodes a).Refs.length), (13, .bool false), (14, .bool true), (15, .bool false), (16, .bool false), (17, .int .i64 0), (18, .int .i64 0), (19, .bool false), (91, .int .i64 3), (113, .int .i64 (nth f.Nodes a).Num), (114, .int .i64 (0))], [], [.cells 7 [f.cells], .cells 8 [(nth f.Nodes a).cells], .cells 1 [[.fn n_impl_nodeOk_S1 [.ptr 0 0 0 1, .ptr 1 0 0 1]]], .cells 1 [[.int .i64 (nth f.Nodes a).Kids.length]]], []⟩ : St) = some (AExit.exit 3, (⟨[(0, .agg f.cells), (1, .int .i64 a), (2, .ptr 0 0 0 1), (4, .bool false), (5, .ptr 1 0 0 1), (67, ints (nth f.Nodes a).Kids), (68, .int .i64 (nth f.Nodes a).Kids.length), (69, .int .i64 (nth f.Nodes a).Kids.length), (8, .ptr 2 0 0 1), (9, .ptr 3 0 0 1), (10, .fn n_impl_nodeOk_S2 [.ptr 3 0 0 1, .ptr 2 0 0 1]), (11, .fn n_impl_nodeOk_S3 [.ptr 2 0 0 1]), (12, .int .i64 (nth f.Nodes a).Refs.length), (13, .bool false), (14, .bool true), (15, .bool false), (16, .bool false), (17, .int .i64 0), (18, .int .i64 0), (19, .bool false), (91, .int .i64 3), (113, .int .i64 (nth f.Nodes a).Num), (114, .int .i64 ((nth f.Nodes a).Num))], [], [.cells 7 [f.cells], .cells 8 [(nth f.Nodes a).cells], .cells 1 [[.fn n_impl_nodeOk_S1 [.ptr 0 0 0 1, .ptr 1 0 0 1]]], .cells 1 [[.int .i64 (nth f.Nodes a).Kids.length]]], []⟩ : St)) := by
  refine loop_seek (fun i => (⟨[(0, .agg f.cells), (1, .int .i64 a), (2, .ptr 0 0 0 1), (4, .bool false), (5, .ptr 1 0 0 1), (67, ints (nth f.Nodes a).Kids), (68, .int .i64 (nth f.Nodes a).Kids.length), (69, .int .i64 (nth f.Nodes a).Kids.length), (8, .ptr 2 0 0 1), (9, .ptr 3 0 0 1), (10, .fn n_impl_nodeOk_S2 [.ptr 3 0 0 1, .ptr 2 0 0 1]), (11, .fn n_impl_nodeOk_S3 [.ptr 2 0 0 1]), (12, .int .i64 (nth f.Nodes a).Refs.length), (13, .bool false), (14, .bool true), (15, .bool false), (16, .bool false), (17, .int .i64 0), (18, .int .i64 0), (19, .bool false), (91, .int .i64 3), (113, .int .i64 (nth f.Nodes a).Num), (114, .int .i64 i)], [], [.cells 7 [f.cells], .cells 8 [(nth f.Nodes a).cells], .cells 1 [[.fn n_impl_nodeOk_S1 [.ptr 0 0 0 1, .ptr 1 0 0 1]]], .cells 1 [[.int .i64 (nth f.Nodes a).Kids.length]]], []⟩ : St)) (fun (j : Int) => (¬ikind f.Nodes (nth f.Nodes a).Kids j = 26 ∧ ¬ikind f.Nodes (nth f.Nodes a).Kids j = 27) ∧ ¬ikind f.Nodes (nth f.Nodes a).Kids j = 33) (fun (j : Int) (st : St) => st.per.get 4 = .bool false) (AExit.exit 3, (⟨[(0, .agg f.cells), (1, .int .i64 a), (2, .ptr 0 0 0 1), (4, .bool false), (5, .ptr 1 0 0 1), (67, ints (nth f.Nodes a).Kids), (68, .int .i64 (nth f.Nodes a).Kids.length), (69, .int .i64 (nth f.Nodes a).Kids.length), (8, .ptr 2 0 0 1), (9, .ptr 3 0 0 1), (10, .fn n_impl_nodeOk_S2 [.ptr 3 0 0 1, .ptr 2 0 0 1]), (11, .fn n_impl_nodeOk_S3 [.ptr 2 0 0 1]), (12, .int .i64 (nth f.Nodes a).Refs.length), (13, .bool false), (14, .bool true), (15, .bool false), (16, .bool false), (17, .int .i64 0), (18, .int .i64 0), (19, .bool false), (91, .int .i64 3), (113, .int .i64 (nth f.Nodes a).Num), (114, .int .i64 ((nth f.Nodes a).Num))], [], [.cells 7 [f.cells], .cells 8 [(nth f.Nodes a).cells], .cells 1 [[.fn n_impl_nodeOk_S1 [.ptr 0 0 0 1, .ptr 1 0 0 1]]], .cells 1 [[.int .i64 (nth f.Nodes a).Kids.length]]], []⟩ : St)) (0) ((nth f.Nodes a).Num) ?_ ?_ ?_ (0) (by omega) (by omega)
  · intro i hi hn hp
    try simp only [Classical.not_not] at hp
    have hki1 := hki i hi (by omega)
    refine ⟨_, by simp (maxSteps := 10000000) -implicitDefEqProofs +contextual (disch := omega) only [ub_impl_nodeOk_1, rr_impl_nodeOk, ↓XD, XU, refs, goneIn, Nat.beq, Nat.ble, List.isEmpty, ↓reduceIte, sevalprocAttr, nodes, ints, strs, ups, Node.cells, Fn.cells, ei_kind, hn, hp]; rfl, by first | (simp [St.next, trim_all]; done) | (simp [St.next, trim_all]; omega) | (simp [St.next, trim, bare, refsL, refs]; done)⟩
  · intro i hi hn hp
    have hki1 := hki i hi (by omega)
    refine ⟨_, by simp (maxSteps := 10000000) -implicitDefEqProofs +contextual (disch := omega) only [ub_impl_nodeOk_1, rr_impl_nodeOk, ↓XD, XU, refs, goneIn, Nat.beq, Nat.ble, List.isEmpty, ↓reduceIte, sevalprocAttr, nodes, ints, strs, ups, Node.cells, Fn.cells, ei_kind, hn, hp]; rfl, by simp [Env.get]⟩
  · rintro i hi rfl
    refine ⟨by simp (maxSteps := 10000000) -implicitDefEqProofs +contextual (disch := omega) only [ub_impl_nodeOk_1, rr_impl_nodeOk, ↓XD, XU, refs, goneIn, Nat.beq, Nat.ble, List.isEmpty, ↓reduceIte, sevalprocAttr, nodes, ints, strs, ups, Node.cells, Fn.cells, ei_kind, Int.lt_irrefl], by simp⟩
theorem nk_3 (f : Fn) (a : Int) (h0 : 0 ≤ a) (h1 : a < f.Nodes.length) (hk : (nth f.Nodes a).Kids.length ≤ 1048576) (hl : ∀ v0 H, EV A (.loop (B_impl_nodeOk 0)) ⟨[(0, v0), (1, .int .i64 a), (2, .ptr 0 0 0 1), (4, .bool false), (5, .ptr 1 0 0 1), (67, ints (nth f.Nodes a).Kids), (68, .int .i64 (nth f.Nodes a).Kids.length), (69, .int .i64 0)], [], H, []⟩ = some (.exit 0, ⟨[(0, v0), (1, .int .i64 a), (2, .ptr 0 0 0 1), (4, .bool false), (5, .ptr 1 0 0 1), (67, ints (nth f.Nodes a).Kids), (68, .int .i64 (nth f.Nodes a).Kids.length), (69, .int .i64 (nth f.Nodes a).Kids.length)], [], H, []⟩))
   (hki : ∀ i : Int, 0 ≤ i → i < (nth f.Nodes a).Kids.length → 0 ≤ nth (nth f.Nodes a).Kids i ∧ nth (nth f.Nodes a).Kids i < a) (hc : ¬200 < ((nth f.Nodes a).Kids.length : Int)) (hK : (nth f.Nodes a).Kind = 3) : EP A n_impl_nodeOk [.agg f.cells, .int .i64 a] = some (.bool (decide (Shape f.Nodes a))) := by
  have hs : isStat 3 := by simp only [isStat]; omega
  have he : ¬isExpr 3 := by simp only [isExpr]; omega
  have hki' : ∀ i : Int, 0 ≤ i → i < (nth f.Nodes a).Kids.length → 0 ≤ nth (nth f.Nodes a).Kids i ∧ nth (nth f.Nodes a).Kids i < f.Nodes.length := fun i i0 i1 => by have := hki i i0 i1; omega
  have ea1 := fun f0 p0 p1 p2 p3 p4 p5 q0 q1 q2 q3 q4 q5 q6 h0 h1 c hc => ei_all n_impl_expression isExpr ei_expression f0 f.Nodes (nth f.Nodes a).Kids p0 p1 p2 p3 p4 p5 q0 q1 q2 q3 q4 q5 q6 h0 h1 hk c hc hki'
  by_cases hn : (nth f.Nodes a).Num < 1 ∨ ((nth f.Nodes a).Kids.length : Int) ≤ (nth f.Nodes a).Num
  · have hb : True := trivial
    simp (maxSteps := 10000000) -implicitDefEqProofs +contextual (disch := omega) only [e_impl_nodeOk, u_impl_nodeOk, rr_impl_nodeOk, hK, hs, he, hc, hn, nodes, ints, strs, ups, Node.cells, Fn.cells, ↓XD, XU, refs, goneIn, Nat.beq, Nat.ble, List.isEmpty, ↓reduceIte, sevalprocAttr, ei_statement, ei_expression, ei_IsNaN, hl, hb, ea1, ei_is, ei_kind]
    refine some_bool ?_
    simp only [Shape, Stmt, Expr, hK, hs, he, Bool.false_eq_true]
    clear hl ea1
    grind
  · have hb := li_nodeOk1 f a h0 h1 hk hki' (by omega) (by omega)
    cases hx : seek (fun j => (¬ikind f.Nodes (nth f.Nodes a).Kids j = 26 ∧ ¬ikind f.Nodes (nth f.Nodes a).Kids j = 27) ∧ ¬ikind f.Nodes (nth f.Nodes a).Kids j = 33) 0 (nth f.Nodes a).Num with
    | some j =>
      obtain ⟨j0, j1, j2, _⟩ := seek_some.1 hx
      rw [hx] at hb
      obtain ⟨st, hb, g⟩ := hb
      simp only [Node.cells, hK] at hb
      have hq : ¬Shape f.Nodes a := fun h => by
        have h := h.2.2
        simp only [Stmt, Expr, hK, hs, he] at h
        have h := h.elim (fun h => h.2.2.2) (fun h => absurd h.1 (by simp))
        simp at h
        have := h.2.2.1 j j0 j1
        rw [kid_is f a hki j0 (by omega)] at this
        omega
      by_cases hLn : (nth f.Nodes a).Line < 1 ∨ 100000 < (nth f.Nodes a).Line
      · simp (maxSteps := 10000000) -implicitDefEqProofs +contextual (disch := omega) only [e_impl_nodeOk, u_impl_nodeOk, rr_impl_nodeOk, hK, hs, he, hc, hn, g, hq, hLn, nodes, ints, strs, ups, Node.cells, Fn.cells, ↓XD, XU, refs, goneIn, Nat.beq, Nat.ble, List.isEmpty, ↓reduceIte, sevalprocAttr, ei_statement, ei_expression, ei_IsNaN, hl, hb, ea1, ei_is, ei_kind]
      · simp (maxSteps := 10000000) -implicitDefEqProofs +contextual (disch := omega) only [e_impl_nodeOk, u_impl_nodeOk, rr_impl_nodeOk, hK, hs, he, hc, hn, g, hq, hLn, nodes, ints, strs, ups, Node.cells, Fn.cells, ↓XD, XU, refs, goneIn, Nat.beq, Nat.ble, List.isEmpty, ↓reduceIte, sevalprocAttr, ei_statement, ei_expression, ei_IsNaN, hl, hb, ea1, ei_is, ei_kind]
    | none =>
      rw [hx] at hb
      simp only [Node.cells, hK] at hb
      have hq : ∀ i : Int, 0 ≤ i → i < (nth f.Nodes a).Num → l3kid f.Nodes a i = 26 ∨ l3kid f.Nodes a i = 27 ∨ l3kid f.Nodes a i = 33 := fun j j0 j1 => by
        have := seek_none.1 hx j j0 j1
        rw [kid_is f a hki j0 (by omega)]
        omega
      have hx2 := exprs_all f a hki (i := (nth f.Nodes a).Num) (by omega)
      simp (maxSteps := 10000000) -implicitDefEqProofs +contextual (disch := omega) only [e_impl_nodeOk, u_impl_nodeOk, rr_impl_nodeOk, hK, hs, he, hc, hn, nodes, ints, strs, ups, Node.cells, Fn.cells, ↓XD, XU, refs, goneIn, Nat.beq, Nat.ble, List.isEmpty, ↓reduceIte, sevalprocAttr, ei_statement, ei_expression, ei_IsNaN, hl, hb, ea1, ei_is, ei_kind]
      refine some_bool ?_
      simp only [Shape, Stmt, Expr, hK, hs, he, Bare, hx2, Bool.and_eq_true, Bool.or_eq_true, Bool.not_eq_true', decide_eq_false_iff_not, decide_eq_true_eq, Int.reduceEq, false_and, and_false, false_or, or_false, true_and, and_true, Bool.false_eq_true, not_true, not_false_eq_true]
      clear hl ea1 hb
      grind
theorem ei_nodeOk (f : Fn) (a : Int) (h0 : 0 ≤ a) (h1 : a < f.Nodes.length) (hk : (nth f.Nodes a).Kids.length ≤ 1048576) : EP A n_impl_nodeOk [.agg f.cells, .int .i64 a] = some (.bool (decide (Shape f.Nodes a))) := by
  by_cases hse : isStat (nth f.Nodes a).Kind ∨ isExpr (nth f.Nodes a).Kind
  · by_cases hc : 200 < ((nth f.Nodes a).Kids.length : Int)
    · have hq : ¬Shape f.Nodes a := fun h => by have := h.1; omega
      by_cases hs : isStat (nth f.Nodes a).Kind
      · simp (maxSteps := 10000000) -implicitDefEqProofs +contextual (disch := omega) only [e_impl_nodeOk, u_impl_nodeOk, rr_impl_nodeOk, hs, hc, hq, nodes, ints, strs, ups, Node.cells, Fn.cells, ↓XD, XU, refs, goneIn, Nat.beq, Nat.ble, List.isEmpty, ↓reduceIte, sevalprocAttr, ei_statement, ei_expression]
      · have he := hse.resolve_left hs
        simp (maxSteps := 10000000) -implicitDefEqProofs +contextual (disch := omega) only [e_impl_nodeOk, u_impl_nodeOk, rr_impl_nodeOk, hs, he, hc, hq, nodes, ints, strs, ups, Node.cells, Fn.cells, ↓XD, XU, refs, goneIn, Nat.beq, Nat.ble, List.isEmpty, ↓reduceIte, sevalprocAttr, ei_statement, ei_expression]
    · have hl := fun v0 H => li_nodeOk0 v0 a (nth f.Nodes a).Kids H hk
      cases hx : seek (fun j => nth (nth f.Nodes a).Kids j < 0 ∨ a ≤ nth (nth f.Nodes a).Kids j) 0 (nth f.Nodes a).Kids.length with
      | some j =>
        obtain ⟨j0, j1, j2, _⟩ := seek_some.1 hx
        have hq : ¬Shape f.Nodes a := fun h => by have := h.2.1 j j0 j1; omega
        simp only [hx] at hl
        by_cases hs : isStat (nth f.Nodes a).Kind
        · have he : ¬isExpr (nth f.Nodes a).Kind := by simp only [isStat] at hs; simp only [isExpr]; omega
          simp (maxSteps := 10000000) -implicitDefEqProofs +contextual (disch := omega) only [e_impl_nodeOk, u_impl_nodeOk, rr_impl_nodeOk, hs, he, hc, hq, hl, nodes, ints, strs, ups, Node.cells, Fn.cells, ↓XD, XU, refs, goneIn, Nat.beq, Nat.ble, List.isEmpty, ↓reduceIte, sevalprocAttr, ei_statement, ei_expression]
        · have he := hse.resolve_left hs
          simp (maxSteps := 10000000) -implicitDefEqProofs +contextual (disch := omega) only [e_impl_nodeOk, u_impl_nodeOk, rr_impl_nodeOk, hs, he, hc, hq, hl, nodes, ints, strs, ups, Node.cells, Fn.cells, ↓XD, XU, refs, goneIn, Nat.beq, Nat.ble, List.isEmpty, ↓reduceIte, sevalprocAttr, ei_statement, ei_expression]
      | none =>
        simp only [hx] at hl
        have hki : ∀ i : Int, 0 ≤ i → i < (nth f.Nodes a).Kids.length → 0 ≤ nth (nth f.Nodes a).Kids i ∧ nth (nth f.Nodes a).Kids i < a := fun i i0 i1 => by have := seek_none.1 hx i i0 i1; omega
        simp only [isStat, isExpr] at hse
        by_cases k1 : (nth f.Nodes a).Kind = 1
        · exact nk_1 f a h0 h1 hk hl hki hc k1
        by_cases k2 : (nth f.Nodes a).Kind = 2
        · exact nk_2 f a h0 h1 hk hl hki hc k2
        by_cases k3 : (nth f.Nodes a).Kind = 3
        · exact nk_3 f a h0 h1 hk hl hki hc k3
        by_cases k4 : (nth f.Nodes a).Kind = 4
        · exact nk_4 f a h0 h1 hk hl hki hc k4
        by_cases k5 : (nth f.Nodes a).Kind = 5
        · exact nk_5 f a h0 h1 hk hl hki hc k5
        by_cases k6 : (nth f.Nodes a).Kind = 6
        · exact nk_6 f a h0 h1 hk hl hki hc k6
        by_cases k7 : (nth f.Nodes a).Kind = 7
        · exact nk_7 f a h0 h1 hk hl hki hc k7
        by_cases k8 : (nth f.Nodes a).Kind = 8
        · exact nk_8 f a h0 h1 hk hl hki hc k8
        by_cases k9 : (nth f.Nodes a).Kind = 9
        · exact nk_9 f a h0 h1 hk hl hki hc k9
        by_cases k10 : (nth f.Nodes a).Kind = 10
        · exact nk_10 f a h0 h1 hk hl hki hc k10
        by_cases k11 : (nth f.Nodes a).Kind = 11
        · exact nk_11 f a h0 h1 hk hl hki hc k11
        by_cases k12 : (nth f.Nodes a).Kind = 12
        · exact nk_12 f a h0 h1 hk hl hki hc k12
        by_cases k13 : (nth f.Nodes a).Kind = 13
        · exact nk_13 f a h0 h1 hk hl hki hc k13
        by_cases k14 : (nth f.Nodes a).Kind = 14
        · exact nk_14 f a h0 h1 hk hl hki hc k14
        by_cases k20 : (nth f.Nodes a).Kind = 20
        · exact nk_20 f a h0 h1 hk hl hki hc k20
        by_cases k21 : (nth f.Nodes a).Kind = 21
        · exact nk_21 f a h0 h1 hk hl hki hc k21
        by_cases k22 : (nth f.Nodes a).Kind = 22
        · exact nk_22 f a h0 h1 hk hl hki hc k22
        by_cases k23 : (nth f.Nodes a).Kind = 23
        · exact nk_23 f a h0 h1 hk hl hki hc k23
        by_cases k24 : (nth f.Nodes a).Kind = 24
        · exact nk_24 f a h0 h1 hk hl hki hc k24
        by_cases k25 : (nth f.Nodes a).Kind = 25
        · exact nk_25 f a h0 h1 hk hl hki hc k25
        by_cases k26 : (nth f.Nodes a).Kind = 26
        · exact nk_26 f a h0 h1 hk hl hki hc k26
        by_cases k27 : (nth f.Nodes a).Kind = 27
        · exact nk_27 f a h0 h1 hk hl hki hc k27
        by_cases k28 : (nth f.Nodes a).Kind = 28
        · exact nk_28 f a h0 h1 hk hl hki hc k28
        by_cases k29 : (nth f.Nodes a).Kind = 29
        · exact nk_29 f a h0 h1 hk hl hki hc k29
        by_cases k30 : (nth f.Nodes a).Kind = 30
        · exact nk_30 f a h0 h1 hk hl hki hc k30
        by_cases k31 : (nth f.Nodes a).Kind = 31
        · exact nk_31 f a h0 h1 hk hl hki hc k31
        by_cases k32 : (nth f.Nodes a).Kind = 32
        · exact nk_32 f a h0 h1 hk hl hki hc k32
        by_cases k33 : (nth f.Nodes a).Kind = 33
        · exact nk_33 f a h0 h1 hk hl hki hc k33
        by_cases k34 : (nth f.Nodes a).Kind = 34
        · exact nk_34 f a h0 h1 hk hl hki hc k34
        by_cases k35 : (nth f.Nodes a).Kind = 35
        · exact nk_35 f a h0 h1 hk hl hki hc k35
        by_cases k36 : (nth f.Nodes a).Kind = 36
        · exact nk_36 f a h0 h1 hk hl hki hc k36
        by_cases k37 : (nth f.Nodes a).Kind = 37
        · exact nk_37 f a h0 h1 hk hl hki hc k37
        by_cases k38 : (nth f.Nodes a).Kind = 38
        · exact nk_38 f a h0 h1 hk hl hki hc k38
        exfalso; omega
  · have hs : ¬isStat (nth f.Nodes a).Kind := fun h => hse (.inl h)
    have he : ¬isExpr (nth f.Nodes a).Kind := fun h => hse (.inr h)
    have hq : ¬Shape f.Nodes a := fun h => by
      rcases h.2.2 with h | h
      · exact hs h.1
      · have h := h.2.2
        simp only [isExpr] at he
        simp only [Expr] at h
        omega
    simp (maxSteps := 10000000) -implicitDefEqProofs +contextual (disch := omega) only [e_impl_nodeOk, u_impl_nodeOk, rr_impl_nodeOk, hs, he, hq, nodes, ints, strs, ups, Node.cells, Fn.cells, ↓XD, XU, refs, goneIn, Nat.beq, Nat.ble, List.isEmpty, ↓reduceIte, sevalprocAttr, ei_statement, ei_expression]
end Go.Proofs.Try.Av
end
section
attribute [local congr] ite_congr
set_option linter.unusedSimpArgs false
set_option linter.unusedVariables false
set_option maxRecDepth 10000
set_option maxHeartbeats 4000000
namespace Go.Proofs.Try.Av
open Go Go.Av Classical
abbrev E0 (fs : List Fn) (t : Int) : Env := [(0, unit fs), (1, .ptr 0 0 0 1), (2, .ptr 1 0 0 1), (3, .int .i64 t), (49, fns fs), (50, .int .i64 fs.length), (51, .int .i64 fs.length)]
theorem li_0 (fs : List Fn) (hb : fs.length ≤ 1048576) (ht : total fs ≤ 1048576) (a0 : Int) (hok0 : a0 = totalN fs ((0) : Int).toNat) : EV A (.loop (B_impl_CheckUnit 0)) (⟨[(0, unit fs), (1, .ptr 0 0 0 1), (2, .ptr 1 0 0 1), (3, .int .i64 a0), (49, fns fs), (50, .int .i64 fs.length), (51, .int .i64 (0))], [], hU fs, []⟩ : St) = some (AExit.exit 0, (⟨[(0, unit fs), (1, .ptr 0 0 0 1), (2, .ptr 1 0 0 1), (3, .int .i64 (iter (fun (i : Int) (a : Int) => totalN fs (i + 1).toNat) ((fs.length : Int) - 0).toNat (0) a0)), (49, fns fs), (50, .int .i64 fs.length), (51, .int .i64 (fs.length))], [], hU fs, []⟩ : St)) ∧ (iter (fun (i : Int) (a : Int) => totalN fs (i + 1).toNat) ((fs.length : Int) - 0).toNat (0) a0) = totalN fs ((fs.length) : Int).toNat := by
  refine loop_iter (fun i (a : Int) => (⟨[(0, unit fs), (1, .ptr 0 0 0 1), (2, .ptr 1 0 0 1), (3, .int .i64 a), (49, fns fs), (50, .int .i64 fs.length), (51, .int .i64 i)], [], hU fs, []⟩ : St)) (fun (i : Int) (a : Int) => totalN fs (i + 1).toNat) (fun i (a : Int) => a = totalN fs (i : Int).toNat) (fun a => (AExit.exit 0, (⟨[(0, unit fs), (1, .ptr 0 0 0 1), (2, .ptr 1 0 0 1), (3, .int .i64 a), (49, fns fs), (50, .int .i64 fs.length), (51, .int .i64 (fs.length))], [], hU fs, []⟩ : St))) (0) (fs.length) ?_ ?_ (0) a0 (by omega) (by omega) hok0
  · intro i a hi hn hok
    have hs := totalN_step fs hi hn; have hs2 := totalN_le fs i.toNat; have hs3 := totalN_le fs (i + 1).toNat
    refine ⟨⟨_, by simp (maxSteps := 10000000) -implicitDefEqProofs +contextual (disch := omega) only [ub_impl_CheckUnit_0, rr_impl_CheckUnit, ↓XD, XU, refs, goneIn, Nat.beq, Nat.ble, List.isEmpty, ↓reduceIte, sevalprocAttr, hU, unit, fns, Fn.cells, hs, hn, hok]; rfl, by first | (simp [St.next, trim_all]; done) | (simp [St.next, trim_all]; omega) | (simp [St.next, trim, bare, refsL, refs]; done)⟩, by rfl⟩
  · rintro i a hi rfl hok
    refine ⟨by simp (maxSteps := 10000000) -implicitDefEqProofs +contextual (disch := omega) only [ub_impl_CheckUnit_0, rr_impl_CheckUnit, ↓XD, XU, refs, goneIn, Nat.beq, Nat.ble, List.isEmpty, ↓reduceIte, sevalprocAttr, hU, unit, fns, Fn.cells, Int.lt_irrefl, hok], by simp⟩
theorem li_1 (fs : List Fn) (t : Int) (hb : fs.length ≤ 1048576) (hs : SizedF fs) : match seek (fun (j : Int) => ¬Head fs j) 0 fs.length with | some j => ∃ st, EV A (.loop (B_impl_CheckUnit 1)) (⟨[(0, unit fs), (1, .ptr 0 0 0 1), (2, .ptr 1 0 0 1), (3, .int .i64 t), (49, fns fs), (50, .int .i64 fs.length), (51, .int .i64 fs.length), (78, .int .i64 fs.length), (79, .int .i64 (0))], [], hU fs, []⟩ : St) = some (.ret, st) ∧ ResAt 2 1 3 (flt3 2 j 0) st | none => EV A (.loop (B_impl_CheckUnit 1)) (⟨[(0, unit fs), (1, .ptr 0 0 0 1), (2, .ptr 1 0 0 1), (3, .int .i64 t), (49, fns fs), (50, .int .i64 fs.length), (51, .int .i64 fs.length), (78, .int .i64 fs.length), (79, .int .i64 (0))], [], hU fs, []⟩ : St) = some (AExit.exit 2, (⟨[(0, unit fs), (1, .ptr 0 0 0 1), (2, .ptr 1 0 0 1), (3, .int .i64 t), (49, fns fs), (50, .int .i64 fs.length), (51, .int .i64 fs.length), (78, .int .i64 fs.length), (79, .int .i64 (fs.length))], [], hU fs, []⟩ : St)) := by
  refine loop_seek (fun i => (⟨[(0, unit fs), (1, .ptr 0 0 0 1), (2, .ptr 1 0 0 1), (3, .int .i64 t), (49, fns fs), (50, .int .i64 fs.length), (51, .int .i64 fs.length), (78, .int .i64 fs.length), (79, .int .i64 i)], [], hU fs, []⟩ : St)) (fun (j : Int) => ¬Head fs j) (fun (j : Int) (st : St) => ResAt 2 1 3 (flt3 2 j 0) st) (AExit.exit 2, (⟨[(0, unit fs), (1, .ptr 0 0 0 1), (2, .ptr 1 0 0 1), (3, .int .i64 t), (49, fns fs), (50, .int .i64 fs.length), (51, .int .i64 fs.length), (78, .int .i64 fs.length), (79, .int .i64 (fs.length))], [], hU fs, []⟩ : St)) (0) (fs.length) ?_ ?_ ?_ (0) (by omega) (by omega)
  · intro i hi hn hp
    try simp only [Classical.not_not] at hp
    have hs1 := (hs i).1
    refine ⟨_, by simp (maxSteps := 10000000) -implicitDefEqProofs +contextual (disch := omega) only [ub_impl_CheckUnit_1, rr_impl_CheckUnit, ↓XD, XU, refs, goneIn, Nat.beq, Nat.ble, List.isEmpty, ↓reduceIte, sevalprocAttr, hU, unit, fns, ei_fnOk, hn, hp]; rfl, by first | (simp [St.next, trim_all]; done) | (simp [St.next, trim_all]; omega) | (simp [St.next, trim, bare, refsL, refs]; done)⟩
  · intro i hi hn hp
    have hs1 := (hs i).1
    refine ⟨_, by simp (maxSteps := 10000000) -implicitDefEqProofs +contextual (disch := omega) only [ub_impl_CheckUnit_1, rr_impl_CheckUnit, ↓XD, XU, refs, goneIn, Nat.beq, Nat.ble, List.isEmpty, ↓reduceIte, sevalprocAttr, hU, unit, fns, ei_fnOk, hn, hp]; rfl, by simp [ResAt, Env.get, Env.put]⟩
  · rintro i hi rfl
    refine ⟨by simp (maxSteps := 10000000) -implicitDefEqProofs +contextual (disch := omega) only [ub_impl_CheckUnit_1, rr_impl_CheckUnit, ↓XD, XU, refs, goneIn, Nat.beq, Nat.ble, List.isEmpty, ↓reduceIte, sevalprocAttr, hU, unit, fns, ei_fnOk, Int.lt_irrefl], by simp⟩
abbrev hN (fs : List Fn) (f : Fn) : Heap := [.cells 1 [[fns fs]], .cells 3 [[.int .i64 0, .int .i64 0, .int .i64 0]], .cells 7 [f.cells]]
theorem li_3 (fs : List Fn) (t fi : Int) (f : Fn) (hb : fs.length ≤ 1048576) (hs : Sized f.Nodes) (hn : f.Nodes.length ≤ 1048576) : match seek (fun (j : Int) => ¬Shape f.Nodes j) 0 f.Nodes.length with | some j => ∃ st, EV A (.loop (B_impl_CheckUnit 3)) (⟨[(0, unit fs), (1, .ptr 0 0 0 1), (2, .ptr 1 0 0 1), (3, .int .i64 t), (49, fns fs), (50, .int .i64 fs.length), (51, .int .i64 fs.length), (78, .int .i64 fs.length), (79, .int .i64 fs.length), (90, fns fs), (91, .int .i64 fs.length), (92, .int .i64 fi), (8, .ptr 2 0 0 1), (7, .int .i64 fi), (99, .int .i64 f.Nodes.length), (100, .int .i64 (0))], [], hN fs f, []⟩ : St) = some (.ret, st) ∧ ResAt 2 1 3 (flt3 3 fi j) st | none => EV A (.loop (B_impl_CheckUnit 3)) (⟨[(0, unit fs), (1, .ptr 0 0 0 1), (2, .ptr 1 0 0 1), (3, .int .i64 t), (49, fns fs), (50, .int .i64 fs.length), (51, .int .i64 fs.length), (78, .int .i64 fs.length), (79, .int .i64 fs.length), (90, fns fs), (91, .int .i64 fs.length), (92, .int .i64 fi), (8, .ptr 2 0 0 1), (7, .int .i64 fi), (99, .int .i64 f.Nodes.length), (100, .int .i64 (0))], [], hN fs f, []⟩ : St) = some (AExit.exit 6, (⟨[(0, unit fs), (1, .ptr 0 0 0 1), (2, .ptr 1 0 0 1), (3, .int .i64 t), (49, fns fs), (50, .int .i64 fs.length), (51, .int .i64 fs.length), (78, .int .i64 fs.length), (79, .int .i64 fs.length), (90, fns fs), (91, .int .i64 fs.length), (92, .int .i64 fi), (8, .ptr 2 0 0 1), (7, .int .i64 fi), (99, .int .i64 f.Nodes.length), (100, .int .i64 (f.Nodes.length))], [], hN fs f, []⟩ : St)) := by
  refine loop_seek (fun i => (⟨[(0, unit fs), (1, .ptr 0 0 0 1), (2, .ptr 1 0 0 1), (3, .int .i64 t), (49, fns fs), (50, .int .i64 fs.length), (51, .int .i64 fs.length), (78, .int .i64 fs.length), (79, .int .i64 fs.length), (90, fns fs), (91, .int .i64 fs.length), (92, .int .i64 fi), (8, .ptr 2 0 0 1), (7, .int .i64 fi), (99, .int .i64 f.Nodes.length), (100, .int .i64 i)], [], hN fs f, []⟩ : St)) (fun (j : Int) => ¬Shape f.Nodes j) (fun (j : Int) (st : St) => ResAt 2 1 3 (flt3 3 fi j) st) (AExit.exit 6, (⟨[(0, unit fs), (1, .ptr 0 0 0 1), (2, .ptr 1 0 0 1), (3, .int .i64 t), (49, fns fs), (50, .int .i64 fs.length), (51, .int .i64 fs.length), (78, .int .i64 fs.length), (79, .int .i64 fs.length), (90, fns fs), (91, .int .i64 fs.length), (92, .int .i64 fi), (8, .ptr 2 0 0 1), (7, .int .i64 fi), (99, .int .i64 f.Nodes.length), (100, .int .i64 (f.Nodes.length))], [], hN fs f, []⟩ : St)) (0) (f.Nodes.length) ?_ ?_ ?_ (0) (by omega) (by omega)
  · intro i hi hn hp
    try simp only [Classical.not_not] at hp
    have hs1 := (hs i).2; have hs2 := ei_nodeOk f i hi hn hs1; simp only [Fn.cells, strs, ups, nodes] at hs2
    refine ⟨_, by simp (maxSteps := 10000000) -implicitDefEqProofs +contextual (disch := omega) only [ub_impl_CheckUnit_3, rr_impl_CheckUnit, ↓XD, XU, refs, goneIn, Nat.beq, Nat.ble, List.isEmpty, ↓reduceIte, sevalprocAttr, hN, unit, fns, Fn.cells, nodes, strs, ups, hs2, hn, hp]; rfl, by first | (simp [St.next, trim_all]; done) | (simp [St.next, trim_all]; omega) | (simp [St.next, trim, bare, refsL, refs]; done)⟩
  · intro i hi hn hp
    have hs1 := (hs i).2; have hs2 := ei_nodeOk f i hi hn hs1; simp only [Fn.cells, strs, ups, nodes] at hs2
    refine ⟨_, by simp (maxSteps := 10000000) -implicitDefEqProofs +contextual (disch := omega) only [ub_impl_CheckUnit_3, rr_impl_CheckUnit, ↓XD, XU, refs, goneIn, Nat.beq, Nat.ble, List.isEmpty, ↓reduceIte, sevalprocAttr, hN, unit, fns, Fn.cells, nodes, strs, ups, hs2, hn, hp]; rfl, by simp [ResAt, Env.get, Env.put]⟩
  · rintro i hi rfl
    refine ⟨by simp (maxSteps := 10000000) -implicitDefEqProofs +contextual (disch := omega) only [ub_impl_CheckUnit_3, rr_impl_CheckUnit, ↓XD, XU, refs, goneIn, Nat.beq, Nat.ble, List.isEmpty, ↓reduceIte, sevalprocAttr, hN, unit, fns, Fn.cells, nodes, strs, ups, Int.lt_irrefl], by simp⟩
theorem li_2 (fs : List Fn) (t : Int) (hb : fs.length ≤ 1048576) (hs : SizedF fs) : match seek (fun (j : Int) => badShape fs j ≠ none) 0 fs.length with | some j => ∃ st, EV A (.loop (B_impl_CheckUnit 2)) (⟨[(0, unit fs), (1, .ptr 0 0 0 1), (2, .ptr 1 0 0 1), (3, .int .i64 t), (49, fns fs), (50, .int .i64 fs.length), (51, .int .i64 fs.length), (78, .int .i64 fs.length), (79, .int .i64 fs.length), (90, fns fs), (91, .int .i64 fs.length), (92, .int .i64 (0))], [], hU fs, []⟩ : St) = some (.ret, st) ∧ ResAt 2 1 3 (flt3 3 j ((badShape fs j).getD 0)) st | none => EV A (.loop (B_impl_CheckUnit 2)) (⟨[(0, unit fs), (1, .ptr 0 0 0 1), (2, .ptr 1 0 0 1), (3, .int .i64 t), (49, fns fs), (50, .int .i64 fs.length), (51, .int .i64 fs.length), (78, .int .i64 fs.length), (79, .int .i64 fs.length), (90, fns fs), (91, .int .i64 fs.length), (92, .int .i64 (0))], [], hU fs, []⟩ : St) = some (AExit.exit 4, (⟨[(0, unit fs), (1, .ptr 0 0 0 1), (2, .ptr 1 0 0 1), (3, .int .i64 t), (49, fns fs), (50, .int .i64 fs.length), (51, .int .i64 fs.length), (78, .int .i64 fs.length), (79, .int .i64 fs.length), (90, fns fs), (91, .int .i64 fs.length), (92, .int .i64 (fs.length))], [], hU fs, []⟩ : St)) := by
  refine loop_seek (fun i => (⟨[(0, unit fs), (1, .ptr 0 0 0 1), (2, .ptr 1 0 0 1), (3, .int .i64 t), (49, fns fs), (50, .int .i64 fs.length), (51, .int .i64 fs.length), (78, .int .i64 fs.length), (79, .int .i64 fs.length), (90, fns fs), (91, .int .i64 fs.length), (92, .int .i64 i)], [], hU fs, []⟩ : St)) (fun (j : Int) => badShape fs j ≠ none) (fun (j : Int) (st : St) => ResAt 2 1 3 (flt3 3 j ((badShape fs j).getD 0)) st) (AExit.exit 4, (⟨[(0, unit fs), (1, .ptr 0 0 0 1), (2, .ptr 1 0 0 1), (3, .int .i64 t), (49, fns fs), (50, .int .i64 fs.length), (51, .int .i64 fs.length), (78, .int .i64 fs.length), (79, .int .i64 fs.length), (90, fns fs), (91, .int .i64 fs.length), (92, .int .i64 (fs.length))], [], hU fs, []⟩ : St)) (0) (fs.length) ?_ ?_ ?_ (0) (by omega) (by omega)
  · intro i hi hn hp
    try simp only [Classical.not_not] at hp
    have hl := li_3 fs t i (nth fs i) hb (hs i).2.2.2 (hs i).2.2.1
    have hp' : badShape fs i = none := (by simpa using hp); unfold badShape at hp'; rw [hp'] at hl
    refine ⟨_, by simp (maxSteps := 10000000) -implicitDefEqProofs +contextual (disch := omega) only [ub_impl_CheckUnit_2, rr_impl_CheckUnit, ↓XD, XU, refs, goneIn, Nat.beq, Nat.ble, List.isEmpty, ↓reduceIte, sevalprocAttr, hU, unit, fns, Fn.cells, nodes, hl, hn, hp]; rfl, by first | (simp [St.next, trim_all]; done) | (simp [St.next, trim_all]; omega) | (simp [St.next, trim, bare, refsL, refs]; done)⟩
  · intro i hi hn hp
    have hl := li_3 fs t i (nth fs i) hb (hs i).2.2.2 (hs i).2.2.1
    obtain ⟨k, hk⟩ := Option.ne_none_iff_exists'.1 hp; unfold badShape at hk; rw [hk] at hl; obtain ⟨st, hl, hg⟩ := hl
    refine ⟨_, by simp (maxSteps := 10000000) -implicitDefEqProofs +contextual (disch := omega) only [ub_impl_CheckUnit_2, rr_impl_CheckUnit, ↓XD, XU, refs, goneIn, Nat.beq, Nat.ble, List.isEmpty, ↓reduceIte, sevalprocAttr, hU, unit, fns, Fn.cells, nodes, hl, hn, hp]; rfl, by unfold badShape; rw [hk]; exact hg⟩
  · rintro i hi rfl
    refine ⟨by simp (maxSteps := 10000000) -implicitDefEqProofs +contextual (disch := omega) only [ub_impl_CheckUnit_2, rr_impl_CheckUnit, ↓XD, XU, refs, goneIn, Nat.beq, Nat.ble, List.isEmpty, ↓reduceIte, sevalprocAttr, hU, unit, fns, Fn.cells, nodes, Int.lt_irrefl], by simp⟩
abbrev gUse (kids : List Int) (j : Int) (a : List Int) : List Int := a.set (nth kids j).toNat (nth a (nth kids j) + 1)
theorem li_6 (fs : List Fn) (f : Fn) (t fi n : Int) (nd : Node) (hb : f.Nodes.length ≤ 1048576) (hkb : nd.Kids.length ≤ 1048576) (hn0 : 0 ≤ n) (hn1 : n < 1048576) (hk : ∀ i : Int, 0 ≤ i → i < nd.Kids.length → 0 ≤ nth nd.Kids i ∧ nth nd.Kids i < f.Nodes.length) (a0 : List Int) (hok0 : a0.length = f.Nodes.length ∧ ∀ k : Int, 0 ≤ nth a0 k ∧ nth a0 k ≤ n * 1048576 + (0)) : EV A (.loop (B_impl_CheckUnit 6)) (⟨[(0, unit fs), (1, .ptr 0 0 0 1), (2, .ptr 1 0 0 1), (3, .int .i64 t), (49, fns fs), (50, .int .i64 fs.length), (51, .int .i64 fs.length), (78, .int .i64 fs.length), (79, .int .i64 fs.length), (90, fns fs), (91, .int .i64 fs.length), (92, .int .i64 fs.length), (113, fns fs), (114, .int .i64 fs.length), (115, .int .i64 fi), (11, .ptr 2 0 0 1), (10, .int .i64 fi), (12, .sl 3 0 f.Nodes.length f.Nodes.length), (125, nodes f.Nodes), (126, .int .i64 f.Nodes.length), (127, .int .i64 n), (14, .ptr 4 0 0 1), (132, ints nd.Kids), (133, .int .i64 nd.Kids.length), (134, .int .i64 (0))], [], [.cells 1 [[fns fs]], .cells 3 [[.int .i64 0, .int .i64 0, .int .i64 0]], .cells 7 [f.cells], .cells 1 (il a0), .cells 8 [nd.cells]], []⟩ : St) = some (AExit.exit 12, (⟨[(0, unit fs), (1, .ptr 0 0 0 1), (2, .ptr 1 0 0 1), (3, .int .i64 t), (49, fns fs), (50, .int .i64 fs.length), (51, .int .i64 fs.length), (78, .int .i64 fs.length), (79, .int .i64 fs.length), (90, fns fs), (91, .int .i64 fs.length), (92, .int .i64 fs.length), (113, fns fs), (114, .int .i64 fs.length), (115, .int .i64 fi), (11, .ptr 2 0 0 1), (10, .int .i64 fi), (12, .sl 3 0 f.Nodes.length f.Nodes.length), (125, nodes f.Nodes), (126, .int .i64 f.Nodes.length), (127, .int .i64 n), (14, .ptr 4 0 0 1), (132, ints nd.Kids), (133, .int .i64 nd.Kids.length), (134, .int .i64 (nd.Kids.length))], [], [.cells 1 [[fns fs]], .cells 3 [[.int .i64 0, .int .i64 0, .int .i64 0]], .cells 7 [f.cells], .cells 1 (il (iter (fun (i : Int) (a : List Int) => gUse nd.Kids i a) ((nd.Kids.length : Int) - 0).toNat (0) a0)), .cells 8 [nd.cells]], []⟩ : St)) ∧ (iter (fun (i : Int) (a : List Int) => gUse nd.Kids i a) ((nd.Kids.length : Int) - 0).toNat (0) a0).length = f.Nodes.length ∧ ∀ k : Int, 0 ≤ nth (iter (fun (i : Int) (a : List Int) => gUse nd.Kids i a) ((nd.Kids.length : Int) - 0).toNat (0) a0) k ∧ nth (iter (fun (i : Int) (a : List Int) => gUse nd.Kids i a) ((nd.Kids.length : Int) - 0).toNat (0) a0) k ≤ n * 1048576 + (nd.Kids.length) := by
  refine loop_iter (fun i (a : List Int) => (⟨[(0, unit fs), (1, .ptr 0 0 0 1), (2, .ptr 1 0 0 1), (3, .int .i64 t), (49, fns fs), (50, .int .i64 fs.length), (51, .int .i64 fs.length), (78, .int .i64 fs.length), (79, .int .i64 fs.length), (90, fns fs), (91, .int .i64 fs.length), (92, .int .i64 fs.length), (113, fns fs), (114, .int .i64 fs.length), (115, .int .i64 fi), (11, .ptr 2 0 0 1), (10, .int .i64 fi), (12, .sl 3 0 f.Nodes.length f.Nodes.length), (125, nodes f.Nodes), (126, .int .i64 f.Nodes.length), (127, .int .i64 n), (14, .ptr 4 0 0 1), (132, ints nd.Kids), (133, .int .i64 nd.Kids.length), (134, .int .i64 i)], [], [.cells 1 [[fns fs]], .cells 3 [[.int .i64 0, .int .i64 0, .int .i64 0]], .cells 7 [f.cells], .cells 1 (il a), .cells 8 [nd.cells]], []⟩ : St)) (fun (i : Int) (a : List Int) => gUse nd.Kids i a) (fun i (a : List Int) => a.length = f.Nodes.length ∧ ∀ k : Int, 0 ≤ nth a k ∧ nth a k ≤ n * 1048576 + i) (fun a => (AExit.exit 12, (⟨[(0, unit fs), (1, .ptr 0 0 0 1), (2, .ptr 1 0 0 1), (3, .int .i64 t), (49, fns fs), (50, .int .i64 fs.length), (51, .int .i64 fs.length), (78, .int .i64 fs.length), (79, .int .i64 fs.length), (90, fns fs), (91, .int .i64 fs.length), (92, .int .i64 fs.length), (113, fns fs), (114, .int .i64 fs.length), (115, .int .i64 fi), (11, .ptr 2 0 0 1), (10, .int .i64 fi), (12, .sl 3 0 f.Nodes.length f.Nodes.length), (125, nodes f.Nodes), (126, .int .i64 f.Nodes.length), (127, .int .i64 n), (14, .ptr 4 0 0 1), (132, ints nd.Kids), (133, .int .i64 nd.Kids.length), (134, .int .i64 (nd.Kids.length))], [], [.cells 1 [[fns fs]], .cells 3 [[.int .i64 0, .int .i64 0, .int .i64 0]], .cells 7 [f.cells], .cells 1 (il a), .cells 8 [nd.cells]], []⟩ : St))) (0) (nd.Kids.length) ?_ ?_ (0) a0 (by omega) (by omega) hok0
  · intro i a hi hn hok
    have hk1 := hk i hi hn; have hk2 := hok.2 (nth nd.Kids i); have hok1 := hok.1
    refine ⟨⟨_, by simp (maxSteps := 10000000) -implicitDefEqProofs +contextual (disch := omega) only [ub_impl_CheckUnit_6, rr_impl_CheckUnit, ↓XD, XU, refs, goneIn, Nat.beq, Nat.ble, List.isEmpty, ↓reduceIte, sevalprocAttr, il, gUse, hok1, hn, hok]; rfl, by first | (simp [St.next, trim_all]; done) | (simp [St.next, trim_all]; omega) | (simp [St.next, trim, bare, refsL, refs]; done)⟩, by exact ⟨by simpa using hok.1, fun k => by have h1 := hok.2 k; have h2 := hok.2 0; have e : ∀ l : List Int, ¬0 ≤ k → nth l k = nth l 0 := (fun l h => by simp [nth, show k.toNat = 0 by omega]); by_cases hk0 : 0 ≤ k; (rw [gUse, nth_set hk1.1 (by omega) hk0]; split <;> omega); (rw [e _ hk0, gUse, nth_set hk1.1 (by omega) (by omega)]; split <;> omega)⟩⟩
  · rintro i a hi rfl hok
    refine ⟨by simp (maxSteps := 10000000) -implicitDefEqProofs +contextual (disch := omega) only [ub_impl_CheckUnit_6, rr_impl_CheckUnit, ↓XD, XU, refs, goneIn, Nat.beq, Nat.ble, List.isEmpty, ↓reduceIte, sevalprocAttr, il, gUse, Int.lt_irrefl, hok], by simp⟩
theorem li_5 (fs : List Fn) (f : Fn) (t fi : Int) (hb : f.Nodes.length ≤ 1048576) (hsz : Sized f.Nodes) (hki : KidsIn f.Nodes) (a0 : List Int) (hok0 : a0.length = f.Nodes.length ∧ ∀ k : Int, 0 ≤ nth a0 k ∧ nth a0 k ≤ (0) * 1048576) : EV A (.loop (B_impl_CheckUnit 5)) (⟨[(0, unit fs), (1, .ptr 0 0 0 1), (2, .ptr 1 0 0 1), (3, .int .i64 t), (49, fns fs), (50, .int .i64 fs.length), (51, .int .i64 fs.length), (78, .int .i64 fs.length), (79, .int .i64 fs.length), (90, fns fs), (91, .int .i64 fs.length), (92, .int .i64 fs.length), (113, fns fs), (114, .int .i64 fs.length), (115, .int .i64 fi), (11, .ptr 2 0 0 1), (10, .int .i64 fi), (12, .sl 3 0 f.Nodes.length f.Nodes.length), (125, nodes f.Nodes), (126, .int .i64 f.Nodes.length), (127, .int .i64 (0))], [], [.cells 1 [[fns fs]], .cells 3 [[.int .i64 0, .int .i64 0, .int .i64 0]], .cells 7 [f.cells], .cells 1 (il a0)], []⟩ : St) = some (AExit.exit 10, (⟨[(0, unit fs), (1, .ptr 0 0 0 1), (2, .ptr 1 0 0 1), (3, .int .i64 t), (49, fns fs), (50, .int .i64 fs.length), (51, .int .i64 fs.length), (78, .int .i64 fs.length), (79, .int .i64 fs.length), (90, fns fs), (91, .int .i64 fs.length), (92, .int .i64 fs.length), (113, fns fs), (114, .int .i64 fs.length), (115, .int .i64 fi), (11, .ptr 2 0 0 1), (10, .int .i64 fi), (12, .sl 3 0 f.Nodes.length f.Nodes.length), (125, nodes f.Nodes), (126, .int .i64 f.Nodes.length), (127, .int .i64 (f.Nodes.length))], [], [.cells 1 [[fns fs]], .cells 3 [[.int .i64 0, .int .i64 0, .int .i64 0]], .cells 7 [f.cells], .cells 1 (il (iter (fun (i : Int) (a : List Int) => iter (gUse (nth f.Nodes i).Kids) (((nth f.Nodes i).Kids.length : Int) - 0).toNat 0 a) ((f.Nodes.length : Int) - 0).toNat (0) a0))], []⟩ : St)) ∧ (iter (fun (i : Int) (a : List Int) => iter (gUse (nth f.Nodes i).Kids) (((nth f.Nodes i).Kids.length : Int) - 0).toNat 0 a) ((f.Nodes.length : Int) - 0).toNat (0) a0).length = f.Nodes.length ∧ ∀ k : Int, 0 ≤ nth (iter (fun (i : Int) (a : List Int) => iter (gUse (nth f.Nodes i).Kids) (((nth f.Nodes i).Kids.length : Int) - 0).toNat 0 a) ((f.Nodes.length : Int) - 0).toNat (0) a0) k ∧ nth (iter (fun (i : Int) (a : List Int) => iter (gUse (nth f.Nodes i).Kids) (((nth f.Nodes i).Kids.length : Int) - 0).toNat 0 a) ((f.Nodes.length : Int) - 0).toNat (0) a0) k ≤ (f.Nodes.length) * 1048576 := by
  refine loop_iter (fun i (a : List Int) => (⟨[(0, unit fs), (1, .ptr 0 0 0 1), (2, .ptr 1 0 0 1), (3, .int .i64 t), (49, fns fs), (50, .int .i64 fs.length), (51, .int .i64 fs.length), (78, .int .i64 fs.length), (79, .int .i64 fs.length), (90, fns fs), (91, .int .i64 fs.length), (92, .int .i64 fs.length), (113, fns fs), (114, .int .i64 fs.length), (115, .int .i64 fi), (11, .ptr 2 0 0 1), (10, .int .i64 fi), (12, .sl 3 0 f.Nodes.length f.Nodes.length), (125, nodes f.Nodes), (126, .int .i64 f.Nodes.length), (127, .int .i64 i)], [], [.cells 1 [[fns fs]], .cells 3 [[.int .i64 0, .int .i64 0, .int .i64 0]], .cells 7 [f.cells], .cells 1 (il a)], []⟩ : St)) (fun (i : Int) (a : List Int) => iter (gUse (nth f.Nodes i).Kids) (((nth f.Nodes i).Kids.length : Int) - 0).toNat 0 a) (fun i (a : List Int) => a.length = f.Nodes.length ∧ ∀ k : Int, 0 ≤ nth a k ∧ nth a k ≤ i * 1048576) (fun a => (AExit.exit 10, (⟨[(0, unit fs), (1, .ptr 0 0 0 1), (2, .ptr 1 0 0 1), (3, .int .i64 t), (49, fns fs), (50, .int .i64 fs.length), (51, .int .i64 fs.length), (78, .int .i64 fs.length), (79, .int .i64 fs.length), (90, fns fs), (91, .int .i64 fs.length), (92, .int .i64 fs.length), (113, fns fs), (114, .int .i64 fs.length), (115, .int .i64 fi), (11, .ptr 2 0 0 1), (10, .int .i64 fi), (12, .sl 3 0 f.Nodes.length f.Nodes.length), (125, nodes f.Nodes), (126, .int .i64 f.Nodes.length), (127, .int .i64 (f.Nodes.length))], [], [.cells 1 [[fns fs]], .cells 3 [[.int .i64 0, .int .i64 0, .int .i64 0]], .cells 7 [f.cells], .cells 1 (il a)], []⟩ : St))) (0) (f.Nodes.length) ?_ ?_ (0) a0 (by omega) (by omega) hok0
  · intro i a hi hn hok
    have hl := li_6 fs f t fi i (nth f.Nodes i) hb (hsz i).2 hi (by omega) (fun j j0 j1 => by have := hki i hi hn j j0 j1; omega) a ⟨hok.1, fun k => by have := hok.2 k; omega⟩; have hl1 := hl.1; have hl2 := hl.2; have hkl := (hsz i).2
    refine ⟨⟨_, by simp (maxSteps := 10000000) -implicitDefEqProofs +contextual (disch := omega) only [ub_impl_CheckUnit_5, rr_impl_CheckUnit, ↓XD, XU, refs, goneIn, Nat.beq, Nat.ble, List.isEmpty, ↓reduceIte, sevalprocAttr, il, nodes, Node.cells, Fn.cells, strs, ups, ints, hl1, hn, hok]; rfl, by first | (simp [St.next, trim_all]; done) | (simp [St.next, trim_all]; omega) | (simp [St.next, trim, bare, refsL, refs]; done)⟩, by exact ⟨hl2.1, fun k => ⟨(hl2.2 k).1, Int.le_trans (hl2.2 k).2 (by omega)⟩⟩⟩
  · rintro i a hi rfl hok
    refine ⟨by simp (maxSteps := 10000000) -implicitDefEqProofs +contextual (disch := omega) only [ub_impl_CheckUnit_5, rr_impl_CheckUnit, ↓XD, XU, refs, goneIn, Nat.beq, Nat.ble, List.isEmpty, ↓reduceIte, sevalprocAttr, il, nodes, Node.cells, Fn.cells, strs, ups, ints, Int.lt_irrefl, hok], by simp⟩
def used (ns : List Node) : List Int := iter (fun (i : Int) (a : List Int) => iter (gUse (nth ns i).Kids) (((nth ns i).Kids.length : Int) - 0).toNat 0 a) ((ns.length : Int) - 0).toNat 0 (List.replicate ns.length 0)
abbrev bad4i (ns : List Node) (n : Int) : Prop := (n < (ns.length : Int) - 1 ∧ ¬nth (used ns) n = 1) ∨ (n = (ns.length : Int) - 1 ∧ ¬(nth ns ((ns.length : Int) - 1)).Kind = 1)
theorem li_7 (fs : List Fn) (f : Fn) (t fi : Int) (hb : f.Nodes.length ≤ 1048576) (hu : (used f.Nodes).length = f.Nodes.length) : match seek (fun (j : Int) => bad4i f.Nodes j) 0 f.Nodes.length with | some j => ∃ st, EV A (.loop (B_impl_CheckUnit 7)) (⟨[(0, unit fs), (1, .ptr 0 0 0 1), (2, .ptr 1 0 0 1), (3, .int .i64 t), (49, fns fs), (50, .int .i64 fs.length), (51, .int .i64 fs.length), (78, .int .i64 fs.length), (79, .int .i64 fs.length), (90, fns fs), (91, .int .i64 fs.length), (92, .int .i64 fs.length), (113, fns fs), (114, .int .i64 fs.length), (115, .int .i64 fi), (11, .ptr 2 0 0 1), (10, .int .i64 fi), (12, .sl 3 0 f.Nodes.length f.Nodes.length), (125, nodes f.Nodes), (126, .int .i64 f.Nodes.length), (127, .int .i64 f.Nodes.length), (17, .int .i64 (f.Nodes.length - 1)), (152, .int .i64 f.Nodes.length), (153, .int .i64 (0))], [], [.cells 1 [[fns fs]], .cells 3 [[.int .i64 0, .int .i64 0, .int .i64 0]], .cells 7 [f.cells], .cells 1 (il (used f.Nodes))], []⟩ : St) = some (.ret, st) ∧ ResAt 2 1 3 (flt3 4 fi j) st | none => EV A (.loop (B_impl_CheckUnit 7)) (⟨[(0, unit fs), (1, .ptr 0 0 0 1), (2, .ptr 1 0 0 1), (3, .int .i64 t), (49, fns fs), (50, .int .i64 fs.length), (51, .int .i64 fs.length), (78, .int .i64 fs.length), (79, .int .i64 fs.length), (90, fns fs), (91, .int .i64 fs.length), (92, .int .i64 fs.length), (113, fns fs), (114, .int .i64 fs.length), (115, .int .i64 fi), (11, .ptr 2 0 0 1), (10, .int .i64 fi), (12, .sl 3 0 f.Nodes.length f.Nodes.length), (125, nodes f.Nodes), (126, .int .i64 f.Nodes.length), (127, .int .i64 f.Nodes.length), (17, .int .i64 (f.Nodes.length - 1)), (152, .int .i64 f.Nodes.length), (153, .int .i64 (0))], [], [.cells 1 [[fns fs]], .cells 3 [[.int .i64 0, .int .i64 0, .int .i64 0]], .cells 7 [f.cells], .cells 1 (il (used f.Nodes))], []⟩ : St) = some (AExit.exit 14, (⟨[(0, unit fs), (1, .ptr 0 0 0 1), (2, .ptr 1 0 0 1), (3, .int .i64 t), (49, fns fs), (50, .int .i64 fs.length), (51, .int .i64 fs.length), (78, .int .i64 fs.length), (79, .int .i64 fs.length), (90, fns fs), (91, .int .i64 fs.length), (92, .int .i64 fs.length), (113, fns fs), (114, .int .i64 fs.length), (115, .int .i64 fi), (11, .ptr 2 0 0 1), (10, .int .i64 fi), (12, .sl 3 0 f.Nodes.length f.Nodes.length), (125, nodes f.Nodes), (126, .int .i64 f.Nodes.length), (127, .int .i64 f.Nodes.length), (17, .int .i64 (f.Nodes.length - 1)), (152, .int .i64 f.Nodes.length), (153, .int .i64 (f.Nodes.length))], [], [.cells 1 [[fns fs]], .cells 3 [[.int .i64 0, .int .i64 0, .int .i64 0]], .cells 7 [f.cells], .cells 1 (il (used f.Nodes))], []⟩ : St)) := by
  refine loop_seek (fun i => (⟨[(0, unit fs), (1, .ptr 0 0 0 1), (2, .ptr 1 0 0 1), (3, .int .i64 t), (49, fns fs), (50, .int .i64 fs.length), (51, .int .i64 fs.length), (78, .int .i64 fs.length), (79, .int .i64 fs.length), (90, fns fs), (91, .int .i64 fs.length), (92, .int .i64 fs.length), (113, fns fs), (114, .int .i64 fs.length), (115, .int .i64 fi), (11, .ptr 2 0 0 1), (10, .int .i64 fi), (12, .sl 3 0 f.Nodes.length f.Nodes.length), (125, nodes f.Nodes), (126, .int .i64 f.Nodes.length), (127, .int .i64 f.Nodes.length), (17, .int .i64 (f.Nodes.length - 1)), (152, .int .i64 f.Nodes.length), (153, .int .i64 i)], [], [.cells 1 [[fns fs]], .cells 3 [[.int .i64 0, .int .i64 0, .int .i64 0]], .cells 7 [f.cells], .cells 1 (il (used f.Nodes))], []⟩ : St)) (fun (j : Int) => bad4i f.Nodes j) (fun (j : Int) (st : St) => ResAt 2 1 3 (flt3 4 fi j) st) (AExit.exit 14, (⟨[(0, unit fs), (1, .ptr 0 0 0 1), (2, .ptr 1 0 0 1), (3, .int .i64 t), (49, fns fs), (50, .int .i64 fs.length), (51, .int .i64 fs.length), (78, .int .i64 fs.length), (79, .int .i64 fs.length), (90, fns fs), (91, .int .i64 fs.length), (92, .int .i64 fs.length), (113, fns fs), (114, .int .i64 fs.length), (115, .int .i64 fi), (11, .ptr 2 0 0 1), (10, .int .i64 fi), (12, .sl 3 0 f.Nodes.length f.Nodes.length), (125, nodes f.Nodes), (126, .int .i64 f.Nodes.length), (127, .int .i64 f.Nodes.length), (17, .int .i64 (f.Nodes.length - 1)), (152, .int .i64 f.Nodes.length), (153, .int .i64 (f.Nodes.length))], [], [.cells 1 [[fns fs]], .cells 3 [[.int .i64 0, .int .i64 0, .int .i64 0]], .cells 7 [f.cells], .cells 1 (il (used f.Nodes))], []⟩ : St)) (0) (f.Nodes.length) ?_ ?_ ?_ (0) (by omega) (by omega)
  · intro i hi hn hp
    simp only [bad4i] at hp; have hL1 : (f.Nodes.length : Int) - 1 < f.Nodes.length := (by omega); have hL2 : ¬(f.Nodes.length : Int) - 1 < f.Nodes.length - 1 := (by omega)
    by_cases hL : i = (f.Nodes.length : Int) - 1
    · subst hL
      have hK : (nth f.Nodes ((f.Nodes.length : Int) - 1)).Kind = 1 := Classical.not_not.1 (fun h => hp (.inr ⟨rfl, h⟩))
      refine ⟨_, by (simp (maxSteps := 10000000) -implicitDefEqProofs +contextual (disch := omega) only [ub_impl_CheckUnit_7, rr_impl_CheckUnit, il, nodes, Node.cells, Fn.cells, strs, ups, ints, hu, ↓XD, XU, refs, goneIn, Nat.beq, Nat.ble, List.isEmpty, ↓reduceIte, sevalprocAttr, hn, hK, hL1, hL2]) <;> rfl, by simp [St.next, trim_all]⟩
    · have hU : nth (used f.Nodes) i = 1 := Classical.not_not.1 (fun h => hp (.inl ⟨by omega, h⟩))
      refine ⟨_, by (simp (maxSteps := 10000000) -implicitDefEqProofs +contextual (disch := omega) only [ub_impl_CheckUnit_7, rr_impl_CheckUnit, il, nodes, Node.cells, Fn.cells, strs, ups, ints, hu, ↓XD, XU, refs, goneIn, Nat.beq, Nat.ble, List.isEmpty, ↓reduceIte, sevalprocAttr, hn, hU, hL]) <;> rfl, by simp [St.next, trim_all]⟩
  · intro i hi hn hp
    simp only [bad4i] at hp; have hL1 : (f.Nodes.length : Int) - 1 < f.Nodes.length := (by omega); have hL2 : ¬(f.Nodes.length : Int) - 1 < f.Nodes.length - 1 := (by omega)
    by_cases hL : i = (f.Nodes.length : Int) - 1
    · subst hL
      have hK : ¬(nth f.Nodes ((f.Nodes.length : Int) - 1)).Kind = 1 := fun h => by rcases hp with h1 | h1; omega; exact h1.2 h
      refine ⟨_, by (simp (maxSteps := 10000000) -implicitDefEqProofs +contextual (disch := omega) only [ub_impl_CheckUnit_7, rr_impl_CheckUnit, il, nodes, Node.cells, Fn.cells, strs, ups, ints, hu, ↓XD, XU, refs, goneIn, Nat.beq, Nat.ble, List.isEmpty, ↓reduceIte, sevalprocAttr, hn, hK, hL1, hL2]) <;> rfl, by simp [ResAt, Env.get, Env.put]⟩
    · have hU : ¬nth (used f.Nodes) i = 1 := fun h => by rcases hp with h1 | h1; exact h1.2 h; exact hL h1.1
      have hL3 : i < (f.Nodes.length : Int) - 1 := by omega
      refine ⟨_, by (simp (maxSteps := 10000000) -implicitDefEqProofs +contextual (disch := omega) only [ub_impl_CheckUnit_7, rr_impl_CheckUnit, il, nodes, Node.cells, Fn.cells, strs, ups, ints, hu, ↓XD, XU, refs, goneIn, Nat.beq, Nat.ble, List.isEmpty, ↓reduceIte, sevalprocAttr, hn, hU, hL, hL3]) <;> rfl, by simp [ResAt, Env.get, Env.put]⟩
  · rintro i hi rfl
    refine ⟨by simp (maxSteps := 10000000) -implicitDefEqProofs +contextual (disch := omega) only [ub_impl_CheckUnit_7, rr_impl_CheckUnit, ↓XD, XU, refs, goneIn, Nat.beq, Nat.ble, List.isEmpty, ↓reduceIte, sevalprocAttr, il, nodes, Node.cells, Fn.cells, strs, ups, ints, hu, Int.lt_irrefl], by simp⟩
theorem used_length (ns : List Node) : (used ns).length = ns.length := by
  rw [used, iter_length (fun i a => iter_length (fun j b => by simp [gUse]) _ _ _)]; simp
noncomputable abbrev badUse (fs : List Fn) (j : Int) : Option Int := seek (fun n => bad4i (nth fs j).Nodes n) 0 (nth fs j).Nodes.length
end Go.Proofs.Try.Av
end
section
attribute [local congr] ite_congr
set_option linter.unusedSimpArgs false
set_option linter.unusedVariables false
set_option maxRecDepth 10000
set_option maxHeartbeats 400000
namespace Go.Proofs.Try.Av
open Go Go.Av Classical
theorem rep_zero (n : Nat) (k : Int) : nth (List.replicate n (0 : Int)) k = 0 := by
  simp only [nth, List.getD, List.getElem?_replicate]; split <;> rfl
theorem li_5u (fs : List Fn) (f : Fn) (t fi : Int) (hg : GrowOk f.Nodes) : EV A (.loop (B_impl_CheckUnit 5)) (⟨[(0, unit fs), (1, .ptr 0 0 0 1), (2, .ptr 1 0 0 1), (3, .int .i64 t), (49, fns fs), (50, .int .i64 fs.length), (51, .int .i64 fs.length), (78, .int .i64 fs.length), (79, .int .i64 fs.length), (90, fns fs), (91, .int .i64 fs.length), (92, .int .i64 fs.length), (113, fns fs), (114, .int .i64 fs.length), (115, .int .i64 fi), (11, .ptr 2 0 0 1), (10, .int .i64 fi), (12, .sl 3 0 f.Nodes.length f.Nodes.length), (125, nodes f.Nodes), (126, .int .i64 f.Nodes.length), (127, .int .i64 0)], [], [.cells 1 [[fns fs]], .cells 3 [[.int .i64 0, .int .i64 0, .int .i64 0]], .cells 7 [f.cells], .cells 1 (il (List.replicate f.Nodes.length 0))], []⟩ : St) = some (AExit.exit 10, (⟨[(0, unit fs), (1, .ptr 0 0 0 1), (2, .ptr 1 0 0 1), (3, .int .i64 t), (49, fns fs), (50, .int .i64 fs.length), (51, .int .i64 fs.length), (78, .int .i64 fs.length), (79, .int .i64 fs.length), (90, fns fs), (91, .int .i64 fs.length), (92, .int .i64 fs.length), (113, fns fs), (114, .int .i64 fs.length), (115, .int .i64 fi), (11, .ptr 2 0 0 1), (10, .int .i64 fi), (12, .sl 3 0 f.Nodes.length f.Nodes.length), (125, nodes f.Nodes), (126, .int .i64 f.Nodes.length), (127, .int .i64 f.Nodes.length)], [], [.cells 1 [[fns fs]], .cells 3 [[.int .i64 0, .int .i64 0, .int .i64 0]], .cells 7 [f.cells], .cells 1 (il (used f.Nodes))], []⟩ : St)) :=
  (li_5 fs f t fi hg.hb hg.hsz hg.hki (List.replicate f.Nodes.length 0) ⟨by simp, fun k => by rw [rep_zero]; omega⟩).1
theorem li_4 (fs : List Fn) (t : Int) (hb : fs.length ≤ 1048576) (hG : ∀ f : Int, 0 ≤ f → f < fs.length → GrowOk (nth fs f).Nodes) : match seek (fun (j : Int) => badUse fs j ≠ none) 0 fs.length with | some j => ∃ st, EV A (.loop (B_impl_CheckUnit 4)) (⟨[(0, unit fs), (1, .ptr 0 0 0 1), (2, .ptr 1 0 0 1), (3, .int .i64 t), (49, fns fs), (50, .int .i64 fs.length), (51, .int .i64 fs.length), (78, .int .i64 fs.length), (79, .int .i64 fs.length), (90, fns fs), (91, .int .i64 fs.length), (92, .int .i64 fs.length), (113, fns fs), (114, .int .i64 fs.length), (115, .int .i64 (0))], [], hU fs, []⟩ : St) = some (.ret, st) ∧ ResAt 2 1 3 (flt3 4 j ((badUse fs j).getD 0)) st | none => EV A (.loop (B_impl_CheckUnit 4)) (⟨[(0, unit fs), (1, .ptr 0 0 0 1), (2, .ptr 1 0 0 1), (3, .int .i64 t), (49, fns fs), (50, .int .i64 fs.length), (51, .int .i64 fs.length), (78, .int .i64 fs.length), (79, .int .i64 fs.length), (90, fns fs), (91, .int .i64 fs.length), (92, .int .i64 fs.length), (113, fns fs), (114, .int .i64 fs.length), (115, .int .i64 (0))], [], hU fs, []⟩ : St) = some (AExit.exit 8, (⟨[(0, unit fs), (1, .ptr 0 0 0 1), (2, .ptr 1 0 0 1), (3, .int .i64 t), (49, fns fs), (50, .int .i64 fs.length), (51, .int .i64 fs.length), (78, .int .i64 fs.length), (79, .int .i64 fs.length), (90, fns fs), (91, .int .i64 fs.length), (92, .int .i64 fs.length), (113, fns fs), (114, .int .i64 fs.length), (115, .int .i64 (fs.length))], [], hU fs, []⟩ : St)) := by
  refine loop_seek (fun i => (⟨[(0, unit fs), (1, .ptr 0 0 0 1), (2, .ptr 1 0 0 1), (3, .int .i64 t), (49, fns fs), (50, .int .i64 fs.length), (51, .int .i64 fs.length), (78, .int .i64 fs.length), (79, .int .i64 fs.length), (90, fns fs), (91, .int .i64 fs.length), (92, .int .i64 fs.length), (113, fns fs), (114, .int .i64 fs.length), (115, .int .i64 i)], [], hU fs, []⟩ : St)) (fun (j : Int) => badUse fs j ≠ none) (fun (j : Int) (st : St) => ResAt 2 1 3 (flt3 4 j ((badUse fs j).getD 0)) st) (AExit.exit 8, (⟨[(0, unit fs), (1, .ptr 0 0 0 1), (2, .ptr 1 0 0 1), (3, .int .i64 t), (49, fns fs), (50, .int .i64 fs.length), (51, .int .i64 fs.length), (78, .int .i64 fs.length), (79, .int .i64 fs.length), (90, fns fs), (91, .int .i64 fs.length), (92, .int .i64 fs.length), (113, fns fs), (114, .int .i64 fs.length), (115, .int .i64 (fs.length))], [], hU fs, []⟩ : St)) (0) (fs.length) ?_ ?_ ?_ (0) (by omega) (by omega)
  · intro i hi hn hp
    have hg := hG i hi hn; have hg1 := hg.hb; have hg2 := hg.h1; have h5 := li_5u fs (nth fs i) t i hg; have hl := li_7 fs (nth fs i) t i hg.hb (used_length _)
    have hp' : badUse fs i = none := by simpa using hp
    unfold badUse at hp'
    rw [hp'] at hl
    refine ⟨_, by (simp (maxSteps := 10000000) -implicitDefEqProofs +contextual (disch := omega) only [ub_impl_CheckUnit_4, rr_impl_CheckUnit, hU, unit, fns, Fn.cells, nodes, strs, ups, ↓XD, XU, refs, goneIn, Nat.beq, Nat.ble, List.isEmpty, ↓reduceIte, sevalprocAttr, hn, h5, hl]) <;> rfl, by simp [St.next, trim, bare, refsL, refs]⟩
  · intro i hi hn hp
    have hg := hG i hi hn; have hg1 := hg.hb; have hg2 := hg.h1; have h5 := li_5u fs (nth fs i) t i hg; have hl := li_7 fs (nth fs i) t i hg.hb (used_length _)
    obtain ⟨k, hk⟩ := Option.ne_none_iff_exists'.1 hp
    unfold badUse at hk
    rw [hk] at hl
    obtain ⟨st, hl, hg⟩ := hl
    refine ⟨_, by (simp (maxSteps := 10000000) -implicitDefEqProofs +contextual (disch := omega) only [ub_impl_CheckUnit_4, rr_impl_CheckUnit, hU, unit, fns, Fn.cells, nodes, strs, ups, ↓XD, XU, refs, goneIn, Nat.beq, Nat.ble, List.isEmpty, ↓reduceIte, sevalprocAttr, hn, h5, hl]) <;> rfl, by unfold badUse; rw [hk]; exact hg⟩
  · rintro i hi rfl
    refine ⟨by simp (maxSteps := 10000000) -implicitDefEqProofs +contextual (disch := omega) only [ub_impl_CheckUnit_4, rr_impl_CheckUnit, ↓XD, XU, refs, goneIn, Nat.beq, Nat.ble, List.isEmpty, ↓reduceIte, sevalprocAttr, hU, unit, fns, Fn.cells, nodes, strs, ups, Int.lt_irrefl], by simp⟩
end Go.Proofs.Try.Av
end
section
attribute [local congr] ite_congr
set_option linter.unusedSimpArgs false
set_option linter.unusedVariables false
set_option maxRecDepth 10000
set_option maxHeartbeats 400000
namespace Go.Proofs.Try.Av
open Go Go.Av Classical
abbrev gDk (kids : List Int) (n j : Int) (a : List Int) : List Int := a.set (nth kids j).toNat (nth a n + 1)
theorem nth_neg {l : List Int} {k : Int} (h : ¬0 ≤ k) : nth l k = nth l 0 := by simp [nth, show k.toNat = 0 by omega]
theorem set_bound {a : List Int} {i v B : Int} (i0 : 0 ≤ i) (i1 : i < a.length) (hv : 0 ≤ v ∧ v ≤ B) (h : ∀ k : Int, 0 ≤ nth a k ∧ nth a k ≤ B) (k : Int) : 0 ≤ nth (a.set i.toNat v) k ∧ nth (a.set i.toNat v) k ≤ B := by
  by_cases hk : 0 ≤ k
  · rw [nth_set i0 i1 hk]; split
    · exact hv
    · exact h k
  · rw [nth_neg hk, nth_set i0 i1 (by omega)]; split
    · exact hv
    · exact h 0
theorem li_10 (fs : List Fn) (f : Fn) (t fi n m : Int) (nd : List Int) (hb : f.Nodes.length ≤ 1048576) (hkb : nd.length ≤ 1048576) (hn0 : 0 ≤ n) (hn1 : n < f.Nodes.length) (hm0 : 0 ≤ m) (hm : m ≤ 1048576) (hk : ∀ i : Int, 0 ≤ i → i < nd.length → 0 ≤ nth nd i ∧ nth nd i < n) (a0 : List Int) (hok0 : a0.length = f.Nodes.length ∧ (∀ k : Int, 0 ≤ nth a0 k ∧ nth a0 k ≤ m + 1) ∧ nth a0 n ≤ m) : EV A (.loop (B_impl_CheckUnit 10)) (⟨[(0, unit fs), (1, .ptr 0 0 0 1), (2, .ptr 1 0 0 1), (3, .int .i64 t), (49, fns fs), (50, .int .i64 fs.length), (51, .int .i64 fs.length), (78, .int .i64 fs.length), (79, .int .i64 fs.length), (90, fns fs), (91, .int .i64 fs.length), (92, .int .i64 fs.length), (113, fns fs), (114, .int .i64 fs.length), (115, .int .i64 fs.length), (186, fns fs), (187, .int .i64 fs.length), (188, .int .i64 fi), (20, .ptr 2 0 0 1), (19, .int .i64 fi), (21, .sl 3 0 f.Nodes.length f.Nodes.length), (22, .int .i64 n), (210, ints nd), (211, .int .i64 nd.length), (212, .int .i64 (0))], [], [.cells 1 [[fns fs]], .cells 3 [[.int .i64 0, .int .i64 0, .int .i64 0]], .cells 7 [f.cells], .cells 1 (il a0)], []⟩ : St) = some (AExit.exit 20, (⟨[(0, unit fs), (1, .ptr 0 0 0 1), (2, .ptr 1 0 0 1), (3, .int .i64 t), (49, fns fs), (50, .int .i64 fs.length), (51, .int .i64 fs.length), (78, .int .i64 fs.length), (79, .int .i64 fs.length), (90, fns fs), (91, .int .i64 fs.length), (92, .int .i64 fs.length), (113, fns fs), (114, .int .i64 fs.length), (115, .int .i64 fs.length), (186, fns fs), (187, .int .i64 fs.length), (188, .int .i64 fi), (20, .ptr 2 0 0 1), (19, .int .i64 fi), (21, .sl 3 0 f.Nodes.length f.Nodes.length), (22, .int .i64 n), (210, ints nd), (211, .int .i64 nd.length), (212, .int .i64 (nd.length))], [], [.cells 1 [[fns fs]], .cells 3 [[.int .i64 0, .int .i64 0, .int .i64 0]], .cells 7 [f.cells], .cells 1 (il (iter (fun (i : Int) (a : List Int) => gDk nd n i a) ((nd.length : Int) - 0).toNat (0) a0))], []⟩ : St)) ∧ (iter (fun (i : Int) (a : List Int) => gDk nd n i a) ((nd.length : Int) - 0).toNat (0) a0).length = f.Nodes.length ∧ (∀ k : Int, 0 ≤ nth (iter (fun (i : Int) (a : List Int) => gDk nd n i a) ((nd.length : Int) - 0).toNat (0) a0) k ∧ nth (iter (fun (i : Int) (a : List Int) => gDk nd n i a) ((nd.length : Int) - 0).toNat (0) a0) k ≤ m + 1) ∧ nth (iter (fun (i : Int) (a : List Int) => gDk nd n i a) ((nd.length : Int) - 0).toNat (0) a0) n ≤ m := by
  refine loop_iter (fun i (a : List Int) => (⟨[(0, unit fs), (1, .ptr 0 0 0 1), (2, .ptr 1 0 0 1), (3, .int .i64 t), (49, fns fs), (50, .int .i64 fs.length), (51, .int .i64 fs.length), (78, .int .i64 fs.length), (79, .int .i64 fs.length), (90, fns fs), (91, .int .i64 fs.length), (92, .int .i64 fs.length), (113, fns fs), (114, .int .i64 fs.length), (115, .int .i64 fs.length), (186, fns fs), (187, .int .i64 fs.length), (188, .int .i64 fi), (20, .ptr 2 0 0 1), (19, .int .i64 fi), (21, .sl 3 0 f.Nodes.length f.Nodes.length), (22, .int .i64 n), (210, ints nd), (211, .int .i64 nd.length), (212, .int .i64 i)], [], [.cells 1 [[fns fs]], .cells 3 [[.int .i64 0, .int .i64 0, .int .i64 0]], .cells 7 [f.cells], .cells 1 (il a)], []⟩ : St)) (fun (i : Int) (a : List Int) => gDk nd n i a) (fun i (a : List Int) => a.length = f.Nodes.length ∧ (∀ k : Int, 0 ≤ nth a k ∧ nth a k ≤ m + 1) ∧ nth a n ≤ m) (fun a => (AExit.exit 20, (⟨[(0, unit fs), (1, .ptr 0 0 0 1), (2, .ptr 1 0 0 1), (3, .int .i64 t), (49, fns fs), (50, .int .i64 fs.length), (51, .int .i64 fs.length), (78, .int .i64 fs.length), (79, .int .i64 fs.length), (90, fns fs), (91, .int .i64 fs.length), (92, .int .i64 fs.length), (113, fns fs), (114, .int .i64 fs.length), (115, .int .i64 fs.length), (186, fns fs), (187, .int .i64 fs.length), (188, .int .i64 fi), (20, .ptr 2 0 0 1), (19, .int .i64 fi), (21, .sl 3 0 f.Nodes.length f.Nodes.length), (22, .int .i64 n), (210, ints nd), (211, .int .i64 nd.length), (212, .int .i64 (nd.length))], [], [.cells 1 [[fns fs]], .cells 3 [[.int .i64 0, .int .i64 0, .int .i64 0]], .cells 7 [f.cells], .cells 1 (il a)], []⟩ : St))) (0) (nd.length) ?_ ?_ (0) a0 (by omega) (by omega) hok0
  · intro i a hi hn hok
    have hk1 := hk i hi hn; have hk2 := hok.2.1 n; have hk3 := hok.2.2; have hok1 := hok.1
    refine ⟨⟨_, by simp (maxSteps := 10000000) -implicitDefEqProofs +contextual (disch := omega) only [ub_impl_CheckUnit_10, rr_impl_CheckUnit, ↓XD, XU, refs, goneIn, Nat.beq, Nat.ble, List.isEmpty, ↓reduceIte, sevalprocAttr, il, gDk, hok1, hn, hok]; rfl, by first | (simp [St.next, trim_all]; done) | (simp [St.next, trim_all]; omega) | (simp [St.next, trim, bare, refsL, refs]; done)⟩, by exact ⟨by simpa using hok.1, set_bound hk1.1 (by omega) (by omega) hok.2.1, by rw [gDk, nth_set hk1.1 (by omega) hn0, if_neg (by omega)]; exact hk3⟩⟩
  · rintro i a hi rfl hok
    refine ⟨by simp (maxSteps := 10000000) -implicitDefEqProofs +contextual (disch := omega) only [ub_impl_CheckUnit_10, rr_impl_CheckUnit, ↓XD, XU, refs, goneIn, Nat.beq, Nat.ble, List.isEmpty, ↓reduceIte, sevalprocAttr, il, gDk, Int.lt_irrefl, hok], by simp⟩
theorem li_9 (fs : List Fn) (f : Fn) (t fi : Int) (hb : f.Nodes.length ≤ 1048576) (hsz : Sized f.Nodes) (hki : KidsIn f.Nodes) (a0 : List Int) (hok0 : a0.length = f.Nodes.length ∧ ∀ k : Int, 0 ≤ nth a0 k ∧ nth a0 k ≤ (0)) : EV A (.loop (B_impl_CheckUnit 9)) (⟨[(0, unit fs), (1, .ptr 0 0 0 1), (2, .ptr 1 0 0 1), (3, .int .i64 t), (49, fns fs), (50, .int .i64 fs.length), (51, .int .i64 fs.length), (78, .int .i64 fs.length), (79, .int .i64 fs.length), (90, fns fs), (91, .int .i64 fs.length), (92, .int .i64 fs.length), (113, fns fs), (114, .int .i64 fs.length), (115, .int .i64 fs.length), (186, fns fs), (187, .int .i64 fs.length), (188, .int .i64 fi), (20, .ptr 2 0 0 1), (19, .int .i64 fi), (21, .sl 3 0 f.Nodes.length f.Nodes.length), (22, .int .i64 ((f.Nodes.length : Int) - 1 - (0)))], [], [.cells 1 [[fns fs]], .cells 3 [[.int .i64 0, .int .i64 0, .int .i64 0]], .cells 7 [f.cells], .cells 1 (il a0)], []⟩ : St) = some (AExit.exit 18, (⟨[(0, unit fs), (1, .ptr 0 0 0 1), (2, .ptr 1 0 0 1), (3, .int .i64 t), (49, fns fs), (50, .int .i64 fs.length), (51, .int .i64 fs.length), (78, .int .i64 fs.length), (79, .int .i64 fs.length), (90, fns fs), (91, .int .i64 fs.length), (92, .int .i64 fs.length), (113, fns fs), (114, .int .i64 fs.length), (115, .int .i64 fs.length), (186, fns fs), (187, .int .i64 fs.length), (188, .int .i64 fi), (20, .ptr 2 0 0 1), (19, .int .i64 fi), (21, .sl 3 0 f.Nodes.length f.Nodes.length), (22, .int .i64 ((f.Nodes.length : Int) - 1 - (f.Nodes.length)))], [], [.cells 1 [[fns fs]], .cells 3 [[.int .i64 0, .int .i64 0, .int .i64 0]], .cells 7 [f.cells], .cells 1 (il (iter (fun (i : Int) (a : List Int) => iter (gDk (nth f.Nodes ((f.Nodes.length : Int) - 1 - i)).Kids ((f.Nodes.length : Int) - 1 - i)) (((nth f.Nodes ((f.Nodes.length : Int) - 1 - i)).Kids.length : Int) - 0).toNat 0 a) ((f.Nodes.length : Int) - 0).toNat (0) a0))], []⟩ : St)) ∧ (iter (fun (i : Int) (a : List Int) => iter (gDk (nth f.Nodes ((f.Nodes.length : Int) - 1 - i)).Kids ((f.Nodes.length : Int) - 1 - i)) (((nth f.Nodes ((f.Nodes.length : Int) - 1 - i)).Kids.length : Int) - 0).toNat 0 a) ((f.Nodes.length : Int) - 0).toNat (0) a0).length = f.Nodes.length ∧ ∀ k : Int, 0 ≤ nth (iter (fun (i : Int) (a : List Int) => iter (gDk (nth f.Nodes ((f.Nodes.length : Int) - 1 - i)).Kids ((f.Nodes.length : Int) - 1 - i)) (((nth f.Nodes ((f.Nodes.length : Int) - 1 - i)).Kids.length : Int) - 0).toNat 0 a) ((f.Nodes.length : Int) - 0).toNat (0) a0) k ∧ nth (iter (fun (i : Int) (a : List Int) => iter (gDk (nth f.Nodes ((f.Nodes.length : Int) - 1 - i)).Kids ((f.Nodes.length : Int) - 1 - i)) (((nth f.Nodes ((f.Nodes.length : Int) - 1 - i)).Kids.length : Int) - 0).toNat 0 a) ((f.Nodes.length : Int) - 0).toNat (0) a0) k ≤ (f.Nodes.length) := by
  refine loop_iter (fun i (a : List Int) => (⟨[(0, unit fs), (1, .ptr 0 0 0 1), (2, .ptr 1 0 0 1), (3, .int .i64 t), (49, fns fs), (50, .int .i64 fs.length), (51, .int .i64 fs.length), (78, .int .i64 fs.length), (79, .int .i64 fs.length), (90, fns fs), (91, .int .i64 fs.length), (92, .int .i64 fs.length), (113, fns fs), (114, .int .i64 fs.length), (115, .int .i64 fs.length), (186, fns fs), (187, .int .i64 fs.length), (188, .int .i64 fi), (20, .ptr 2 0 0 1), (19, .int .i64 fi), (21, .sl 3 0 f.Nodes.length f.Nodes.length), (22, .int .i64 ((f.Nodes.length : Int) - 1 - i))], [], [.cells 1 [[fns fs]], .cells 3 [[.int .i64 0, .int .i64 0, .int .i64 0]], .cells 7 [f.cells], .cells 1 (il a)], []⟩ : St)) (fun (i : Int) (a : List Int) => iter (gDk (nth f.Nodes ((f.Nodes.length : Int) - 1 - i)).Kids ((f.Nodes.length : Int) - 1 - i)) (((nth f.Nodes ((f.Nodes.length : Int) - 1 - i)).Kids.length : Int) - 0).toNat 0 a) (fun i (a : List Int) => a.length = f.Nodes.length ∧ ∀ k : Int, 0 ≤ nth a k ∧ nth a k ≤ i) (fun a => (AExit.exit 18, (⟨[(0, unit fs), (1, .ptr 0 0 0 1), (2, .ptr 1 0 0 1), (3, .int .i64 t), (49, fns fs), (50, .int .i64 fs.length), (51, .int .i64 fs.length), (78, .int .i64 fs.length), (79, .int .i64 fs.length), (90, fns fs), (91, .int .i64 fs.length), (92, .int .i64 fs.length), (113, fns fs), (114, .int .i64 fs.length), (115, .int .i64 fs.length), (186, fns fs), (187, .int .i64 fs.length), (188, .int .i64 fi), (20, .ptr 2 0 0 1), (19, .int .i64 fi), (21, .sl 3 0 f.Nodes.length f.Nodes.length), (22, .int .i64 ((f.Nodes.length : Int) - 1 - (f.Nodes.length)))], [], [.cells 1 [[fns fs]], .cells 3 [[.int .i64 0, .int .i64 0, .int .i64 0]], .cells 7 [f.cells], .cells 1 (il a)], []⟩ : St))) (0) (f.Nodes.length) ?_ ?_ (0) a0 (by omega) (by omega) hok0
  · intro i a hi hn hok
    have hl := li_10 fs f t fi ((f.Nodes.length : Int) - 1 - i) i (nth f.Nodes ((f.Nodes.length : Int) - 1 - i)).Kids hb (hsz _).2 (by omega) (by omega) hi (by omega) (fun j j0 j1 => hki _ (by omega) (by omega) j j0 j1) a ⟨hok.1, fun k => by have := hok.2 k; omega, (hok.2 _).2⟩; have hl1 := hl.1; have hl2 := hl.2; have hi2 : 0 ≤ (f.Nodes.length : Int) - 1 - i := (by omega); have hkl := (hsz ((f.Nodes.length : Int) - 1 - i)).2; have hsub : (f.Nodes.length : Int) - 1 - i - 1 = f.Nodes.length - 1 - (i + 1) := (by omega)
    refine ⟨⟨_, by simp (maxSteps := 10000000) -implicitDefEqProofs +contextual (disch := omega) only [ub_impl_CheckUnit_9, rr_impl_CheckUnit, ↓XD, XU, refs, goneIn, Nat.beq, Nat.ble, List.isEmpty, ↓reduceIte, sevalprocAttr, il, nodes, Node.cells, Fn.cells, strs, ups, ints, hl1, hi2, hsub, hn, hok]; rfl, by first | (simp [St.next, trim_all]; done) | (simp [St.next, trim_all]; omega) | (simp [St.next, trim, bare, refsL, refs]; done)⟩, by exact ⟨hl2.1, hl2.2.1⟩⟩
  · rintro i a hi rfl hok
    have he : ¬0 ≤ (f.Nodes.length : Int) - 1 - f.Nodes.length := by omega
    refine ⟨by simp (maxSteps := 10000000) -implicitDefEqProofs +contextual (disch := omega) only [ub_impl_CheckUnit_9, rr_impl_CheckUnit, ↓XD, XU, refs, goneIn, Nat.beq, Nat.ble, List.isEmpty, ↓reduceIte, sevalprocAttr, il, nodes, Node.cells, Fn.cells, strs, ups, ints, Int.lt_irrefl, hok, he], by simp⟩
def depI (ns : List Node) : List Int := iter (fun (m : Int) (a : List Int) => iter (gDk (nth ns ((ns.length : Int) - 1 - m)).Kids ((ns.length : Int) - 1 - m)) (((nth ns ((ns.length : Int) - 1 - m)).Kids.length : Int) - 0).toNat 0 a) ((ns.length : Int) - 0).toNat 0 (List.replicate ns.length 0)
theorem depI_length (ns : List Node) : (depI ns).length = ns.length := by
  rw [depI, iter_length (fun i a => iter_length (fun j b => by simp [gDk]) _ _ _)]; simp
abbrev bad5i (ns : List Node) (n : Int) : Prop := 100 < nth (depI ns) n
theorem li_11 (fs : List Fn) (f : Fn) (t fi : Int) (hb : f.Nodes.length ≤ 1048576) (hD : (depI f.Nodes).length = f.Nodes.length) : match seek (fun (j : Int) => bad5i f.Nodes j) 0 f.Nodes.length with | some j => ∃ st, EV A (.loop (B_impl_CheckUnit 11)) (⟨[(0, unit fs), (1, .ptr 0 0 0 1), (2, .ptr 1 0 0 1), (3, .int .i64 t), (49, fns fs), (50, .int .i64 fs.length), (51, .int .i64 fs.length), (78, .int .i64 fs.length), (79, .int .i64 fs.length), (90, fns fs), (91, .int .i64 fs.length), (92, .int .i64 fs.length), (113, fns fs), (114, .int .i64 fs.length), (115, .int .i64 fs.length), (186, fns fs), (187, .int .i64 fs.length), (188, .int .i64 fi), (20, .ptr 2 0 0 1), (19, .int .i64 fi), (21, .sl 3 0 f.Nodes.length f.Nodes.length), (22, .int .i64 ((f.Nodes.length : Int) - 1 - f.Nodes.length)), (227, .int .i64 f.Nodes.length), (228, .int .i64 (0))], [], [.cells 1 [[fns fs]], .cells 3 [[.int .i64 0, .int .i64 0, .int .i64 0]], .cells 7 [f.cells], .cells 1 (il (depI f.Nodes))], []⟩ : St) = some (.ret, st) ∧ ResAt 2 1 3 (flt3 5 fi j) st | none => EV A (.loop (B_impl_CheckUnit 11)) (⟨[(0, unit fs), (1, .ptr 0 0 0 1), (2, .ptr 1 0 0 1), (3, .int .i64 t), (49, fns fs), (50, .int .i64 fs.length), (51, .int .i64 fs.length), (78, .int .i64 fs.length), (79, .int .i64 fs.length), (90, fns fs), (91, .int .i64 fs.length), (92, .int .i64 fs.length), (113, fns fs), (114, .int .i64 fs.length), (115, .int .i64 fs.length), (186, fns fs), (187, .int .i64 fs.length), (188, .int .i64 fi), (20, .ptr 2 0 0 1), (19, .int .i64 fi), (21, .sl 3 0 f.Nodes.length f.Nodes.length), (22, .int .i64 ((f.Nodes.length : Int) - 1 - f.Nodes.length)), (227, .int .i64 f.Nodes.length), (228, .int .i64 (0))], [], [.cells 1 [[fns fs]], .cells 3 [[.int .i64 0, .int .i64 0, .int .i64 0]], .cells 7 [f.cells], .cells 1 (il (depI f.Nodes))], []⟩ : St) = some (AExit.exit 22, (⟨[(0, unit fs), (1, .ptr 0 0 0 1), (2, .ptr 1 0 0 1), (3, .int .i64 t), (49, fns fs), (50, .int .i64 fs.length), (51, .int .i64 fs.length), (78, .int .i64 fs.length), (79, .int .i64 fs.length), (90, fns fs), (91, .int .i64 fs.length), (92, .int .i64 fs.length), (113, fns fs), (114, .int .i64 fs.length), (115, .int .i64 fs.length), (186, fns fs), (187, .int .i64 fs.length), (188, .int .i64 fi), (20, .ptr 2 0 0 1), (19, .int .i64 fi), (21, .sl 3 0 f.Nodes.length f.Nodes.length), (22, .int .i64 ((f.Nodes.length : Int) - 1 - f.Nodes.length)), (227, .int .i64 f.Nodes.length), (228, .int .i64 (f.Nodes.length))], [], [.cells 1 [[fns fs]], .cells 3 [[.int .i64 0, .int .i64 0, .int .i64 0]], .cells 7 [f.cells], .cells 1 (il (depI f.Nodes))], []⟩ : St)) := by
  refine loop_seek (fun i => (⟨[(0, unit fs), (1, .ptr 0 0 0 1), (2, .ptr 1 0 0 1), (3, .int .i64 t), (49, fns fs), (50, .int .i64 fs.length), (51, .int .i64 fs.length), (78, .int .i64 fs.length), (79, .int .i64 fs.length), (90, fns fs), (91, .int .i64 fs.length), (92, .int .i64 fs.length), (113, fns fs), (114, .int .i64 fs.length), (115, .int .i64 fs.length), (186, fns fs), (187, .int .i64 fs.length), (188, .int .i64 fi), (20, .ptr 2 0 0 1), (19, .int .i64 fi), (21, .sl 3 0 f.Nodes.length f.Nodes.length), (22, .int .i64 ((f.Nodes.length : Int) - 1 - f.Nodes.length)), (227, .int .i64 f.Nodes.length), (228, .int .i64 i)], [], [.cells 1 [[fns fs]], .cells 3 [[.int .i64 0, .int .i64 0, .int .i64 0]], .cells 7 [f.cells], .cells 1 (il (depI f.Nodes))], []⟩ : St)) (fun (j : Int) => bad5i f.Nodes j) (fun (j : Int) (st : St) => ResAt 2 1 3 (flt3 5 fi j) st) (AExit.exit 22, (⟨[(0, unit fs), (1, .ptr 0 0 0 1), (2, .ptr 1 0 0 1), (3, .int .i64 t), (49, fns fs), (50, .int .i64 fs.length), (51, .int .i64 fs.length), (78, .int .i64 fs.length), (79, .int .i64 fs.length), (90, fns fs), (91, .int .i64 fs.length), (92, .int .i64 fs.length), (113, fns fs), (114, .int .i64 fs.length), (115, .int .i64 fs.length), (186, fns fs), (187, .int .i64 fs.length), (188, .int .i64 fi), (20, .ptr 2 0 0 1), (19, .int .i64 fi), (21, .sl 3 0 f.Nodes.length f.Nodes.length), (22, .int .i64 ((f.Nodes.length : Int) - 1 - f.Nodes.length)), (227, .int .i64 f.Nodes.length), (228, .int .i64 (f.Nodes.length))], [], [.cells 1 [[fns fs]], .cells 3 [[.int .i64 0, .int .i64 0, .int .i64 0]], .cells 7 [f.cells], .cells 1 (il (depI f.Nodes))], []⟩ : St)) (0) (f.Nodes.length) ?_ ?_ ?_ (0) (by omega) (by omega)
  · intro i hi hn hp
    try simp only [Classical.not_not] at hp
    simp only [bad5i] at hp
    refine ⟨_, by simp (maxSteps := 10000000) -implicitDefEqProofs +contextual (disch := omega) only [ub_impl_CheckUnit_11, rr_impl_CheckUnit, ↓XD, XU, refs, goneIn, Nat.beq, Nat.ble, List.isEmpty, ↓reduceIte, sevalprocAttr, il, hD, hn, hp]; rfl, by first | (simp [St.next, trim_all]; done) | (simp [St.next, trim_all]; omega) | (simp [St.next, trim, bare, refsL, refs]; done)⟩
  · intro i hi hn hp
    simp only [bad5i] at hp
    refine ⟨_, by simp (maxSteps := 10000000) -implicitDefEqProofs +contextual (disch := omega) only [ub_impl_CheckUnit_11, rr_impl_CheckUnit, ↓XD, XU, refs, goneIn, Nat.beq, Nat.ble, List.isEmpty, ↓reduceIte, sevalprocAttr, il, hD, hn, hp]; rfl, by simp [ResAt, Env.get, Env.put]⟩
  · rintro i hi rfl
    refine ⟨by simp (maxSteps := 10000000) -implicitDefEqProofs +contextual (disch := omega) only [ub_impl_CheckUnit_11, rr_impl_CheckUnit, ↓XD, XU, refs, goneIn, Nat.beq, Nat.ble, List.isEmpty, ↓reduceIte, sevalprocAttr, il, hD, Int.lt_irrefl], by simp⟩
theorem li_9u (fs : List Fn) (f : Fn) (t fi : Int) (hg : GrowOk f.Nodes) : EV A (.loop (B_impl_CheckUnit 9)) (⟨[(0, unit fs), (1, .ptr 0 0 0 1), (2, .ptr 1 0 0 1), (3, .int .i64 t), (49, fns fs), (50, .int .i64 fs.length), (51, .int .i64 fs.length), (78, .int .i64 fs.length), (79, .int .i64 fs.length), (90, fns fs), (91, .int .i64 fs.length), (92, .int .i64 fs.length), (113, fns fs), (114, .int .i64 fs.length), (115, .int .i64 fs.length), (186, fns fs), (187, .int .i64 fs.length), (188, .int .i64 fi), (20, .ptr 2 0 0 1), (19, .int .i64 fi), (21, .sl 3 0 f.Nodes.length f.Nodes.length), (22, .int .i64 ((f.Nodes.length : Int) - 1))], [], [.cells 1 [[fns fs]], .cells 3 [[.int .i64 0, .int .i64 0, .int .i64 0]], .cells 7 [f.cells], .cells 1 (il (List.replicate f.Nodes.length 0))], []⟩ : St) = some (AExit.exit 18, (⟨[(0, unit fs), (1, .ptr 0 0 0 1), (2, .ptr 1 0 0 1), (3, .int .i64 t), (49, fns fs), (50, .int .i64 fs.length), (51, .int .i64 fs.length), (78, .int .i64 fs.length), (79, .int .i64 fs.length), (90, fns fs), (91, .int .i64 fs.length), (92, .int .i64 fs.length), (113, fns fs), (114, .int .i64 fs.length), (115, .int .i64 fs.length), (186, fns fs), (187, .int .i64 fs.length), (188, .int .i64 fi), (20, .ptr 2 0 0 1), (19, .int .i64 fi), (21, .sl 3 0 f.Nodes.length f.Nodes.length), (22, .int .i64 ((f.Nodes.length : Int) - 1 - f.Nodes.length))], [], [.cells 1 [[fns fs]], .cells 3 [[.int .i64 0, .int .i64 0, .int .i64 0]], .cells 7 [f.cells], .cells 1 (il (depI f.Nodes))], []⟩ : St)) := by
  have := (li_9 fs f t fi hg.hb hg.hsz hg.hki (List.replicate f.Nodes.length 0) ⟨by simp, fun k => by rw [rep_zero]; omega⟩).1
  rw [show (f.Nodes.length : Int) - 1 - 0 = f.Nodes.length - 1 by omega] at this
  exact this
noncomputable abbrev badDepI (fs : List Fn) (j : Int) : Option Int := seek (fun n => bad5i (nth fs j).Nodes n) 0 (nth fs j).Nodes.length
theorem li_8 (fs : List Fn) (t : Int) (hb : fs.length ≤ 1048576) (hG : ∀ f : Int, 0 ≤ f → f < fs.length → GrowOk (nth fs f).Nodes) : match seek (fun (j : Int) => badDepI fs j ≠ none) 0 fs.length with | some j => ∃ st, EV A (.loop (B_impl_CheckUnit 8)) (⟨[(0, unit fs), (1, .ptr 0 0 0 1), (2, .ptr 1 0 0 1), (3, .int .i64 t), (49, fns fs), (50, .int .i64 fs.length), (51, .int .i64 fs.length), (78, .int .i64 fs.length), (79, .int .i64 fs.length), (90, fns fs), (91, .int .i64 fs.length), (92, .int .i64 fs.length), (113, fns fs), (114, .int .i64 fs.length), (115, .int .i64 fs.length), (186, fns fs), (187, .int .i64 fs.length), (188, .int .i64 (0))], [], hU fs, []⟩ : St) = some (.ret, st) ∧ ResAt 2 1 3 (flt3 5 j ((badDepI fs j).getD 0)) st | none => EV A (.loop (B_impl_CheckUnit 8)) (⟨[(0, unit fs), (1, .ptr 0 0 0 1), (2, .ptr 1 0 0 1), (3, .int .i64 t), (49, fns fs), (50, .int .i64 fs.length), (51, .int .i64 fs.length), (78, .int .i64 fs.length), (79, .int .i64 fs.length), (90, fns fs), (91, .int .i64 fs.length), (92, .int .i64 fs.length), (113, fns fs), (114, .int .i64 fs.length), (115, .int .i64 fs.length), (186, fns fs), (187, .int .i64 fs.length), (188, .int .i64 (0))], [], hU fs, []⟩ : St) = some (AExit.exit 16, (⟨[(0, unit fs), (1, .ptr 0 0 0 1), (2, .ptr 1 0 0 1), (3, .int .i64 t), (49, fns fs), (50, .int .i64 fs.length), (51, .int .i64 fs.length), (78, .int .i64 fs.length), (79, .int .i64 fs.length), (90, fns fs), (91, .int .i64 fs.length), (92, .int .i64 fs.length), (113, fns fs), (114, .int .i64 fs.length), (115, .int .i64 fs.length), (186, fns fs), (187, .int .i64 fs.length), (188, .int .i64 (fs.length))], [], hU fs, []⟩ : St)) := by
  refine loop_seek (fun i => (⟨[(0, unit fs), (1, .ptr 0 0 0 1), (2, .ptr 1 0 0 1), (3, .int .i64 t), (49, fns fs), (50, .int .i64 fs.length), (51, .int .i64 fs.length), (78, .int .i64 fs.length), (79, .int .i64 fs.length), (90, fns fs), (91, .int .i64 fs.length), (92, .int .i64 fs.length), (113, fns fs), (114, .int .i64 fs.length), (115, .int .i64 fs.length), (186, fns fs), (187, .int .i64 fs.length), (188, .int .i64 i)], [], hU fs, []⟩ : St)) (fun (j : Int) => badDepI fs j ≠ none) (fun (j : Int) (st : St) => ResAt 2 1 3 (flt3 5 j ((badDepI fs j).getD 0)) st) (AExit.exit 16, (⟨[(0, unit fs), (1, .ptr 0 0 0 1), (2, .ptr 1 0 0 1), (3, .int .i64 t), (49, fns fs), (50, .int .i64 fs.length), (51, .int .i64 fs.length), (78, .int .i64 fs.length), (79, .int .i64 fs.length), (90, fns fs), (91, .int .i64 fs.length), (92, .int .i64 fs.length), (113, fns fs), (114, .int .i64 fs.length), (115, .int .i64 fs.length), (186, fns fs), (187, .int .i64 fs.length), (188, .int .i64 (fs.length))], [], hU fs, []⟩ : St)) (0) (fs.length) ?_ ?_ ?_ (0) (by omega) (by omega)
  · intro i hi hn hp
    have hg := hG i hi hn; have hg1 := hg.hb; have hg2 := hg.h1; have h5 := li_9u fs (nth fs i) t i hg; have hl := li_11 fs (nth fs i) t i hg.hb (depI_length _)
    have hp' : badDepI fs i = none := by simpa using hp
    unfold badDepI at hp'
    rw [hp'] at hl
    refine ⟨_, by (simp (maxSteps := 10000000) -implicitDefEqProofs +contextual (disch := omega) only [ub_impl_CheckUnit_8, rr_impl_CheckUnit, hU, unit, fns, Fn.cells, nodes, strs, ups, ↓XD, XU, refs, goneIn, Nat.beq, Nat.ble, List.isEmpty, ↓reduceIte, sevalprocAttr, hn, h5, hl]) <;> rfl, by simp [St.next, trim, bare, refsL, refs]⟩
  · intro i hi hn hp
    have hg := hG i hi hn; have hg1 := hg.hb; have hg2 := hg.h1; have h5 := li_9u fs (nth fs i) t i hg; have hl := li_11 fs (nth fs i) t i hg.hb (depI_length _)
    obtain ⟨k, hk⟩ := Option.ne_none_iff_exists'.1 hp
    unfold badDepI at hk
    rw [hk] at hl
    obtain ⟨st, hl, hg⟩ := hl
    refine ⟨_, by (simp (maxSteps := 10000000) -implicitDefEqProofs +contextual (disch := omega) only [ub_impl_CheckUnit_8, rr_impl_CheckUnit, hU, unit, fns, Fn.cells, nodes, strs, ups, ↓XD, XU, refs, goneIn, Nat.beq, Nat.ble, List.isEmpty, ↓reduceIte, sevalprocAttr, hn, h5, hl]) <;> rfl, by unfold badDepI; rw [hk]; exact hg⟩
  · rintro i hi rfl
    refine ⟨by simp (maxSteps := 10000000) -implicitDefEqProofs +contextual (disch := omega) only [ub_impl_CheckUnit_8, rr_impl_CheckUnit, ↓XD, XU, refs, goneIn, Nat.beq, Nat.ble, List.isEmpty, ↓reduceIte, sevalprocAttr, hU, unit, fns, Fn.cells, nodes, strs, ups, Int.lt_irrefl], by simp⟩
end Go.Proofs.Try.Av
end
section
set_option linter.unusedSimpArgs false
set_option linter.unusedVariables false
namespace Go.Proofs.Try.Av
open Go Go.Av Classical
theorem used_is (ns : List Node) (hki : KidsIn ns) (k : Int) (k0 : 0 ≤ k) (k1 : k < ns.length) : nth (used ns) k = cnt ns k ns.length := by
  have hin : ∀ (i : Int), 0 ≤ i → i < ns.length → ∀ a : List Int, (a.length = ns.length ∧ ∀ k : Int, 0 ≤ k → k < ns.length → nth a k = cnt ns k i.toNat) → ((iter (gUse (nth ns i).Kids) (((nth ns i).Kids.length : Int) - 0).toNat 0 a).length = ns.length ∧ ∀ k : Int, 0 ≤ k → k < ns.length → nth (iter (gUse (nth ns i).Kids) (((nth ns i).Kids.length : Int) - 0).toNat 0 a) k = cnt ns k (i + 1).toNat) := by
    rintro i hi hn a ⟨hl, h⟩
    have := iter_inv (g := gUse (nth ns i).Kids) (fun j a => a.length = ns.length ∧ ∀ k : Int, 0 ≤ k → k < ns.length → nth a k = (cnt ns k i.toNat + ((nth ns i).Kids.take j.toNat).count k : Nat)) 0 ((nth ns i).Kids.length : Int) (by
      rintro j a h1 h2 ⟨h3, h4⟩
      have hk := hki i hi hn j h1 h2
      refine ⟨by simpa [gUse] using h3, fun k k0 k1 => ?_⟩
      rw [gUse, nth_set hk.1 (by omega) k0, take_one_more h1 h2, List.count_append]
      by_cases hkk : nth (nth ns i).Kids j = k
      · rw [if_pos hkk, hkk, h4 k k0 k1]; simp; omega
      · rw [if_neg hkk, h4 k k0 k1]
        have : List.count k [nth (nth ns i).Kids j] = 0 := by simp [hkk]
        rw [this]; omega) (a := a) (by omega) ⟨hl, fun k k0 k1 => by rw [h k k0 k1]; simp⟩
    refine ⟨this.1, fun k k0 k1 => ?_⟩
    rw [this.2 k k0 k1, cnt_step ns k hi hn]
    simp
  have := iter_inv (g := fun (i : Int) (a : List Int) => iter (gUse (nth ns i).Kids) (((nth ns i).Kids.length : Int) - 0).toNat 0 a) (fun i a => a.length = ns.length ∧ ∀ k : Int, 0 ≤ k → k < ns.length → nth a k = cnt ns k i.toNat) 0 (ns.length : Int) (fun i a h1 h2 h3 => hin i h1 h2 a h3) (a := List.replicate ns.length 0) (by omega) ⟨by simp, fun k k0 k1 => by rw [rep_zero]; simp [cnt]⟩
  have h6 := this.2 k k0 k1
  rw [show cnt ns k (ns.length : Int).toNat = cnt ns k ns.length by simp] at h6
  exact h6
theorem bad4_same (ns : List Node) (hki : KidsIn ns) (h1 : 1 ≤ ns.length) (n : Int) (n0 : 0 ≤ n) (n1 : n < ns.length) : bad4i ns n ↔ bad4 ns n := by
  simp only [bad4i, bad4]
  by_cases h : n = (ns.length : Int) - 1
  · have := growP_last ns hki h1
    constructor
    · rintro (⟨h2, _⟩ | ⟨_, h3⟩)
      · omega
      · exact .inr ⟨h, .inr h3⟩
    · rintro (⟨h2, _⟩ | ⟨_, h3 | h3⟩)
      · exact absurd h h2
      · exact absurd this h3
      · exact .inr ⟨h, h3⟩
  · have hu := used_is ns hki n n0 n1
    have hp := growP_par ns hki n n0 (by omega)
    constructor
    · rintro (⟨h2, h3⟩ | ⟨h2, _⟩)
      · left
        refine ⟨h, ?_⟩
        rcases hp with ⟨c, v⟩ | ⟨c, v, _⟩ | ⟨c, v⟩
        · omega
        · omega
        · omega
      · exact absurd h2 h
    · rintro (⟨_, h3⟩ | ⟨h2, _⟩)
      · left
        refine ⟨by omega, ?_⟩
        rcases hp with ⟨c, v⟩ | ⟨c, v, _⟩ | ⟨c, v⟩ <;> omega
      · exact absurd h2 h
theorem badUse_same {fs : List Fn} (hG : ∀ f : Int, 0 ≤ f → f < fs.length → GrowOk (nth fs f).Nodes) {f : Int} (f0 : 0 ≤ f) (f1 : f < fs.length) : badUse fs f = badPar fs f :=
  seek_congr fun n n0 n1 => bad4_same _ (hG f f0 f1).hki (hG f f0 f1).h1 n n0 n1
theorem mem_cnt {ns : List Node} {k i : Int} (i0 : 0 ≤ i) (i1 : i < ns.length) (hm : k ∈ (nth ns i).Kids) : ∀ m : Nat, i < m → (m : Int) ≤ ns.length → 1 ≤ cnt ns k m := by
  intro m
  induction m with
  | zero => intro h; omega
  | succ m ih =>
    intro h1 h2
    have e := cnt_step ns k (i := (m : Int)) (by omega) (by omega)
    rw [show ((m : Int) + 1).toNat = m + 1 by omega, show ((m : Int)).toNat = m by omega] at e
    rw [e]
    by_cases h : i = m
    · subst h
      have := List.count_pos_iff.2 hm
      omega
    · have := ih (by omega) (by omega); omega
theorem two_cnt {ns : List Node} {k i j : Int} (i0 : 0 ≤ i) (hij : i < j) (j1 : j < ns.length) (hi : k ∈ (nth ns i).Kids) (hj : k ∈ (nth ns j).Kids) : ∀ m : Nat, j < m → (m : Int) ≤ ns.length → 2 ≤ cnt ns k m := by
  intro m
  induction m with
  | zero => intro h; omega
  | succ m ih =>
    intro h1 h2
    have e := cnt_step ns k (i := (m : Int)) (by omega) (by omega)
    rw [show ((m : Int) + 1).toNat = m + 1 by omega, show ((m : Int)).toNat = m by omega] at e
    rw [e]
    by_cases h : j = m
    · subst h
      have h3 := List.count_pos_iff.2 hj
      have h4 := mem_cnt i0 (by omega) hi m (by omega) (by omega)
      omega
    · have := ih (by omega) (by omega); omega
theorem parent_is {ns : List Node} (hki : KidsIn ns) (h4 : ∀ n : Int, 0 ≤ n → n < ns.length → ¬bad4 ns n) {k i : Int} (i0 : 0 ≤ i) (i1 : i < ns.length) (hm : k ∈ (nth ns i).Kids) : nth (growP ns) k = i := by
  obtain ⟨j, j0, j1, j2⟩ := mem_nth hm
  have hk := hki i i0 i1 j j0 j1
  rw [j2] at hk
  have hb := h4 k hk.1 (by omega)
  have hv : 0 ≤ nth (growP ns) k := by
    rcases Int.lt_or_le (nth (growP ns) k) 0 with h5 | h5
    · exact absurd (.inl ⟨by omega, h5⟩) hb
    · exact h5
  rcases growP_par ns hki k hk.1 (by omega) with ⟨_, h⟩ | ⟨c, v0, v1, v2⟩ | ⟨_, h⟩
  · omega
  · rcases Int.lt_trichotomy (nth (growP ns) k) i with h | h | h
    · have := two_cnt v0 h i1 v2 hm ns.length i1 (Int.le_refl _); omega
    · exact h
    · have := two_cnt i0 h v1 hm v2 ns.length v1 (Int.le_refl _); omega
  · omega
theorem growD_is (ns : List Node) (hki : KidsIn ns) (h1 : 1 ≤ ns.length) (ht : TreeOk ns (growP ns)) : nth (growD ns) ((ns.length : Int) - 1) = 0 ∧ ∀ k : Int, 0 ≤ k → k < (ns.length : Int) - 1 → 0 ≤ nth (growP ns) k → nth (growD ns) k = nth (growD ns) (nth (growP ns) k) + 1 := by
  have hlt : ∀ k : Int, 0 ≤ k → k < ns.length → 0 ≤ nth (growP ns) k → k < nth (growP ns) k ∧ nth (growP ns) k < ns.length := fun k k0 k1 h => by
    rcases ht.2 k k0 k1 with h2 | ⟨h2, h3, _⟩
    · omega
    · exact ⟨h2, h3⟩
  have := iter_inv (g := gDep ns.length (growP ns)) (fun j a => a.length = ns.length ∧ nth a ((ns.length : Int) - 1) = 0 ∧ ∀ k : Int, (ns.length : Int) - 1 - j ≤ k → 0 ≤ k → k < (ns.length : Int) - 1 → 0 ≤ nth (growP ns) k → nth a k = nth a (nth (growP ns) k) + 1) 0 ((ns.length : Int) - 1) (by
    rintro j a h2 h3 ⟨h4, h5, h6⟩
    simp only [gDep]
    by_cases hp : 0 ≤ nth (growP ns) ((ns.length : Int) - 2 - j)
    · rw [if_pos hp]
      have hl := hlt _ (by omega) (by omega) hp
      refine ⟨by simpa using h4, by rw [nth_set (by omega) (by omega) (by omega), if_neg (by omega)]; exact h5, fun k k1 k0 k2 k3 => ?_⟩
      have hl2 := hlt k k0 (by omega) k3
      rw [nth_set (by omega) (by omega) k0, nth_set (by omega) (by omega) k3]
      by_cases hk : (ns.length : Int) - 2 - j = k
      · rw [if_pos hk, if_neg (by omega), hk]
      · rw [if_neg hk, if_neg (by omega)]
        exact h6 k (by omega) k0 k2 k3
    · rw [if_neg hp]
      refine ⟨h4, h5, fun k k1 k0 k2 k3 => ?_⟩
      by_cases hk : (ns.length : Int) - 2 - j = k
      · rw [hk] at hp; exact absurd k3 hp
      · exact h6 k (by omega) k0 k2 k3) (a := List.replicate ns.length 0) (by omega) ⟨by simp, rep_zero _ _, fun k k1 k0 k2 _ => by omega⟩
  exact ⟨this.2.1, fun k k0 k1 k2 => this.2.2 k (by omega) k0 k1 k2⟩
theorem depI_is (ns : List Node) (hki : KidsIn ns) (h1 : 1 ≤ ns.length) (h4 : ∀ n : Int, 0 ≤ n → n < ns.length → ¬bad4 ns n) (k : Int) (k0 : 0 ≤ k) (k1 : k < ns.length) : nth (depI ns) k = nth (growD ns) k := by
  have ht := tree_ok ns hki h1 h4
  obtain ⟨d0, dp⟩ := growD_is ns hki h1 ht
  have hpar : ∀ k : Int, 0 ≤ k → k < (ns.length : Int) - 1 → k < nth (growP ns) k ∧ nth (growP ns) k < ns.length ∧ k ∈ (nth ns (nth (growP ns) k)).Kids := fun k k0 k1 => by
    have hb := h4 k k0 (by omega)
    have hv : 0 ≤ nth (growP ns) k := by
      rcases Int.lt_or_le (nth (growP ns) k) 0 with h5 | h5
      · exact absurd (.inl ⟨by omega, h5⟩) hb
      · exact h5
    rcases ht.2 k k0 (by omega) with h2 | ⟨h2, h3, h5⟩
    · omega
    · exact ⟨h2, h3, (place_nonneg h5).1⟩
  have := iter_inv (g := fun (m : Int) (a : List Int) => iter (gDk (nth ns ((ns.length : Int) - 1 - m)).Kids ((ns.length : Int) - 1 - m)) (((nth ns ((ns.length : Int) - 1 - m)).Kids.length : Int) - 0).toNat 0 a)
    (fun m a => a.length = ns.length ∧ ∀ k : Int, 0 ≤ k → k < ns.length → (k = (ns.length : Int) - 1 ∨ (ns.length : Int) - m ≤ nth (growP ns) k) → nth a k = nth (growD ns) k) 0 (ns.length : Int) (by
    rintro m a m0 m1 ⟨hl, h⟩
    have hin := iter_inv (g := gDk (nth ns ((ns.length : Int) - 1 - m)).Kids ((ns.length : Int) - 1 - m)) (fun j a => a.length = ns.length ∧ ∀ k : Int, 0 ≤ k → k < ns.length → (k = (ns.length : Int) - 1 ∨ (ns.length : Int) - m ≤ nth (growP ns) k ∨ k ∈ ((nth ns ((ns.length : Int) - 1 - m)).Kids.take j.toNat)) → nth a k = nth (growD ns) k) 0 ((nth ns ((ns.length : Int) - 1 - m)).Kids.length : Int) (by
      rintro j a j0 j1 ⟨hl, h⟩
      have hk := hki _ (by omega) (by omega) j j0 j1
      refine ⟨by simpa [gDk] using hl, fun k k0 k1 hc => ?_⟩
      rw [gDk, nth_set hk.1 (by omega) k0]
      by_cases he : nth (nth ns ((ns.length : Int) - 1 - m)).Kids j = k
      · rw [if_pos he]
        have hn : nth a ((ns.length : Int) - 1 - m) = nth (growD ns) ((ns.length : Int) - 1 - m) := by
          by_cases hr : (ns.length : Int) - 1 - m = ns.length - 1
          · exact h _ (by omega) (by omega) (.inl hr)
          · have := hpar ((ns.length : Int) - 1 - m) (by omega) (by omega)
            exact h _ (by omega) (by omega) (.inr (.inl (by omega)))
        have hp := parent_is hki h4 (i := (ns.length : Int) - 1 - m) (by omega) (by omega) (he ▸ nth_mem j0 j1)
        rw [hn, dp k k0 (by omega) (by omega), hp]
      · rw [if_neg he]
        refine h k k0 k1 ?_
        rcases hc with hc | hc | hc
        · exact .inl hc
        · exact .inr (.inl hc)
        · rw [take_one_more j0 j1, List.mem_append, List.mem_singleton] at hc
          rcases hc with hc | hc
          · exact .inr (.inr hc)
          · exact absurd hc.symm he) (a := a) (by omega) ⟨hl, fun k k0 k1 hc => by
        refine h k k0 k1 ?_
        rcases hc with hc | hc | hc
        · exact .inl hc
        · exact .inr hc
        · simp at hc⟩
    refine ⟨hin.1, fun k k0 k1 hc => hin.2 k k0 k1 ?_⟩
    rcases hc with hc | hc
    · exact .inl hc
    · by_cases he : k = (ns.length : Int) - 1
      · exact .inl he
      · right
        by_cases h5 : (ns.length : Int) - m ≤ nth (growP ns) k
        · exact .inl h5
        · right
          have := hpar k k0 (by omega)
          have e : nth (growP ns) k = (ns.length : Int) - 1 - m := by omega
          rw [e] at this
          simpa using this.2.2) (a := List.replicate ns.length 0) (by omega) ⟨by simp, fun k k0 k1 hc => by
      rcases hc with hc | hc
      · subst hc; rw [rep_zero, d0]
      · by_cases he : k = (ns.length : Int) - 1
        · subst he; rw [rep_zero, d0]
        · have := hpar k k0 (by omega); omega⟩
  refine this.2 k k0 k1 ?_
  by_cases he : k = (ns.length : Int) - 1
  · exact .inl he
  · have := hpar k k0 (by omega); exact .inr (by omega)
theorem badDep_same {fs : List Fn} (hG : ∀ f : Int, 0 ≤ f → f < fs.length → GrowOk (nth fs f).Nodes) (hp : badPars fs = none) {f : Int} (f0 : 0 ≤ f) (f1 : f < fs.length) : badDepI fs f = badDep fs f :=
  seek_congr fun n n0 n1 => by
    have h3 : badPar fs f = none := Classical.not_not.1 (seek_noneD hp f0 f1)
    simp only [bad5i, bad5]
    rw [depI_is _ (hG f f0 f1).hki (hG f f0 f1).h1 (fun m m0 m1 => seek_noneD h3 m0 m1) n n0 n1]
end Go.Proofs.Try.Av
end
section
attribute [local congr] ite_congr
set_option linter.unusedSimpArgs false
set_option linter.unusedVariables false
set_option maxRecDepth 10000
set_option maxHeartbeats 400000
namespace Go.Proofs.Try.Av
open Go Go.Av Classical
def osl {α : Type} (f : α → List PV) : Option (List α) → PV
  | none => .nils
  | some l => .fz (l.map f)
abbrev ol {α : Type} (o : Option (List α)) : List α := o.getD []
theorem osl_some {α : Type} (f : α → List PV) (l : List α) : osl f (some l) = .fz (l.map f) := rfl
theorem lenV_osl {α : Type} (f : α → List PV) (o : Option (List α)) : lenV (osl f o) = some (.int .i64 (ol o).length) := by cases o <;> simp [osl, lenV, ol]
theorem idx_osl {α : Type} [Inhabited α] (f : α → List PV) (o : Option (List α)) (sz : Nat) (H : Heap) (k : IntKind) (i : Int) (h0 : 0 ≤ i) (h : i < (ol o).length) : indexAV sz H (osl f o) (.int k i) = if (f (nth (ol o) i)).length = sz then some (.fp (f (nth (ol o) i)) 0) else none := by
  cases o with
  | none => simp [ol] at h; omega
  | some l => exact idx_map sz H f l k i h0 h
theorem frz_osl {α : Type} (f : α → List PV) (o : Option (List α)) (d : Nat) (H : Heap) : frz (d + 1) H (osl f o) = osl f o := by cases o <;> rfl
theorem refs_osl {α : Type} (f : α → List PV) (o : Option (List α)) : refs (osl f o) = [] := by cases o <;> simp [osl, refs]
theorem isLeaf_osl {α : Type} (f : α → List PV) (o : Option (List α)) : isLeaf (osl f o) = true := by cases o <;> rfl
theorem cellsOf_osl {α : Type} (f : α → List PV) (o : Option (List α)) : cellsOf (osl f o) = [osl f o] := by cases o <;> rfl
abbrev iv (k : Int) : List PV := [.int .i64 k]
abbrev sv (s : ByteArray) : List PV := [.str s]
structure RNode where
  Kind : Int
  Line : Int
  Op : Int
  Num : Int
  Flt : Nat
  Str : ByteArray
  Refs : Option (List Int)
  Kids : Option (List Int)
  deriving Inhabited
structure RFn where
  Name : ByteArray
  Line : Int
  Params : Int
  Rest : Bool
  Vars : Option (List ByteArray)
  Ups : Option (List Up)
  Nodes : Option (List RNode)
  deriving Inhabited
abbrev RNode.cells (n : RNode) : List PV := [.int .i64 n.Kind, .int .i64 n.Line, .int .i64 n.Op, .int .i64 n.Num, .flt .f64 n.Flt, .str n.Str, osl iv n.Refs, osl iv n.Kids]
abbrev RFn.cells (f : RFn) : List PV := [.str f.Name, .int .i64 f.Line, .int .i64 f.Params, .bool f.Rest, osl sv f.Vars, osl Up.cells f.Ups, osl RNode.cells f.Nodes]
abbrev runit (o : Option (List RFn)) : List PV := [osl RFn.cells o]
def rest (left t : Int) : Int := if left < t then -1 else left - t
theorem el_szIntS (o : Option (List Int)) (left : Int) (h0 : 0 ≤ left) (h1 : left ≤ 1048576) (hb : (ol o).length ≤ 9223372036854775807) : EP A n_laws_szIntS [osl iv o, .int .i64 left] = some (.int .i64 (rest left (ol o).length)) := by
  have e : (left - (ol o).length < 0) = (left < (ol o).length) := by rw [eq_iff_iff]; omega
  simp (maxSteps := 10000000) -implicitDefEqProofs +contextual (disch := omega) only [e_laws_szIntS, u_laws_szIntS, rr_laws_szIntS, lenV_osl, frz_osl, ↓XD, XU, refs, goneIn, Nat.beq, Nat.ble, List.isEmpty, ↓reduceIte, sevalprocAttr]
  simp [rest, e]
theorem el_szUpS (o : Option (List Up)) (left : Int) (h0 : 0 ≤ left) (h1 : left ≤ 1048576) (hb : (ol o).length ≤ 9223372036854775807) : EP A n_laws_szUpS [osl Up.cells o, .int .i64 left] = some (.int .i64 (rest left (ol o).length)) := by
  have e : (left - (ol o).length < 0) = (left < (ol o).length) := by rw [eq_iff_iff]; omega
  simp (maxSteps := 10000000) -implicitDefEqProofs +contextual (disch := omega) only [e_laws_szUpS, u_laws_szUpS, rr_laws_szUpS, lenV_osl, frz_osl, ↓XD, XU, refs, goneIn, Nat.beq, Nat.ble, List.isEmpty, ↓reduceIte, sevalprocAttr]
  simp [rest, e]
theorem el_szNode (n : RNode) (left : Int) (h0 : 0 ≤ left) (h1 : left ≤ 1048576) (hs : n.Str.size ≤ 9223372036854775807) (hb : (ol n.Refs).length ≤ 9223372036854775807) (hb2 : (ol n.Kids).length ≤ 9223372036854775807) : EP A n_laws_szNode [.agg n.cells, .int .i64 left] = some (.int .i64 (rest left (n.Str.size + (ol n.Refs).length + (ol n.Kids).length))) := by
  by_cases c1 : left < n.Str.size
  · have e : left - n.Str.size < 0 := by omega
    simp (maxSteps := 10000000) -implicitDefEqProofs +contextual (disch := omega) only [e_laws_szNode, u_laws_szNode, rr_laws_szNode, RNode.cells, lenV_osl, frz_osl, isLeaf_osl, ↓XD, XU, refs, goneIn, Nat.beq, Nat.ble, List.isEmpty, ↓reduceIte, sevalprocAttr, e]
    simp only [rest]; rw [if_pos (by omega)]
  · have e : ¬left - n.Str.size < 0 := by omega
    have g1 := el_szIntS n.Refs (left - n.Str.size) (by omega) (by omega) hb
    by_cases c2 : left - n.Str.size < (ol n.Refs).length
    · rw [rest, if_pos c2] at g1
      simp (maxSteps := 10000000) -implicitDefEqProofs +contextual (disch := omega) only [e_laws_szNode, u_laws_szNode, rr_laws_szNode, RNode.cells, lenV_osl, frz_osl, refs_osl, isLeaf_osl, ↓XD, XU, refs, goneIn, Nat.beq, Nat.ble, List.isEmpty, ↓reduceIte, sevalprocAttr, e, g1]
      simp only [rest]; rw [if_pos (by omega)]
    · rw [rest, if_neg c2] at g1
      have e2 : ¬left - n.Str.size - (ol n.Refs).length < 0 := by omega
      have g2 := el_szIntS n.Kids (left - n.Str.size - (ol n.Refs).length) (by omega) (by omega) hb2
      by_cases c3 : left - n.Str.size - (ol n.Refs).length < (ol n.Kids).length
      · rw [rest, if_pos c3] at g2
        simp (maxSteps := 10000000) -implicitDefEqProofs +contextual (disch := omega) only [e_laws_szNode, u_laws_szNode, rr_laws_szNode, RNode.cells, lenV_osl, frz_osl, refs_osl, isLeaf_osl, ↓XD, XU, refs, goneIn, Nat.beq, Nat.ble, List.isEmpty, ↓reduceIte, sevalprocAttr, e, e2, g1, g2]
        simp only [rest]; rw [if_pos (by omega)]
      · rw [rest, if_neg c3] at g2
        have e3 : ¬left - n.Str.size - (ol n.Refs).length - (ol n.Kids).length < 0 := by omega
        simp (maxSteps := 10000000) -implicitDefEqProofs +contextual (disch := omega) only [e_laws_szNode, u_laws_szNode, rr_laws_szNode, RNode.cells, lenV_osl, frz_osl, refs_osl, isLeaf_osl, ↓XD, XU, refs, goneIn, Nat.beq, Nat.ble, List.isEmpty, ↓reduceIte, sevalprocAttr, e, e2, e3, g1, g2]
        simp only [rest]; rw [if_neg (by omega)]; congr 2; omega
abbrev gSub (c : Int → Int) (i : Int) (l : Int) : Int ⊕ Unit := if l < c i then .inr () else .inl (l - c i)
def sumTo (c : Int → Int) : Nat → Int → Int
  | 0, _ => 0
  | m + 1, i => c i + sumTo c m (i + 1)
theorem sumTo_nonneg {c : Int → Int} (hc : ∀ i, 0 ≤ c i) : ∀ (m : Nat) (i : Int), 0 ≤ sumTo c m i
  | 0, _ => Int.le_refl 0
  | m + 1, i => by have := hc i; have := sumTo_nonneg hc m (i + 1); rw [sumTo]; omega
theorem sub_run {c : Int → Int} (hc : ∀ i, 0 ≤ c i) : ∀ (m : Nat) (i l : Int), 0 ≤ l → iterx (gSub c) m i l = if l < sumTo c m i then .inr () else .inl (l - sumTo c m i)
  | 0, i, l, h0 => by rw [iterx, sumTo, if_neg (by omega), Int.sub_zero]
  | m + 1, i, l, h0 => by
    have h1 := hc i
    have h2 := sumTo_nonneg hc m (i + 1)
    have e : sumTo c (m + 1) i = c i + sumTo c m (i + 1) := rfl
    rw [iterx, gSub, e]
    by_cases h : l < c i
    · rw [if_pos h, if_pos (by omega)]
    · rw [if_neg h]
      dsimp only
      rw [sub_run hc m (i + 1) (l - c i) (by omega)]
      by_cases h3 : l - c i < sumTo c m (i + 1)
      · rw [if_pos h3, if_pos (by omega)]
      · rw [if_neg h3, if_neg (by omega)]; congr 1; omega
theorem sub_rest {c : Int → Int} (hc : ∀ i, 0 ≤ c i) (m : Nat) (l : Int) (h0 : 0 ≤ l) : (match iterx (gSub c) m 0 l with | .inl a => a | .inr _ => -1) = rest l (sumTo c m 0) := by
  rw [sub_run hc _ _ _ h0, rest]
  by_cases h : l < sumTo c m 0
  · rw [if_pos h, if_pos h]
  · rw [if_neg h, if_neg h]
abbrev cStr (l : List ByteArray) (i : Int) : Int := (nth l i).size
theorem lp_szStr (o : Option (List ByteArray)) (hb : (ol o).length ≤ 1048576) (hs : ∀ i : Int, (nth (ol o) i).size ≤ 9223372036854775807) (a0 : Int) (hok0 : 0 ≤ a0 ∧ a0 ≤ 1048576) : OnSum (fun (a : Int) => EV A (.loop (B_laws_szStringS 0)) (⟨[(0, osl sv o), (1, .int .i64 a0), (4, .int .i64 0), (5, .int .i64 (0))], [], [], []⟩ : St) = some (AExit.exit 0, (⟨[(0, osl sv o), (1, .int .i64 a), (4, .int .i64 0), (5, .int .i64 ((ol o).length))], [], [], []⟩ : St)) ∧ 0 ≤ a ∧ a ≤ 1048576) (fun (r : Unit) => ∃ st, EV A (.loop (B_laws_szStringS 0)) (⟨[(0, osl sv o), (1, .int .i64 a0), (4, .int .i64 0), (5, .int .i64 (0))], [], [], []⟩ : St) = some (.ret, st) ∧ st.per.get 4 = .int .i64 (-1)) (iterx (fun (i : Int) (a : Int) => gSub (cStr (ol o)) i a) (((ol o).length : Int) - 0).toNat (0) a0) := by
  refine loop_iterq (P := A) (body := (B_laws_szStringS 0)) (fun i (a : Int) => (⟨[(0, osl sv o), (1, .int .i64 a), (4, .int .i64 0), (5, .int .i64 i)], [], [], []⟩ : St)) (fun (i : Int) (a : Int) => gSub (cStr (ol o)) i a) (fun i (a : Int) => 0 ≤ a ∧ a ≤ 1048576) (fun a => (AExit.exit 0, (⟨[(0, osl sv o), (1, .int .i64 a), (4, .int .i64 0), (5, .int .i64 ((ol o).length))], [], [], []⟩ : St))) (fun (r : Unit) (st : St) => st.per.get 4 = .int .i64 (-1)) (0) ((ol o).length) ?_ ?_ (0) a0 (by omega) (by omega) hok0
  · intro i a hi hn hok
    have h1 := hs i
    rw [gSub]
    by_cases h : a < cStr (ol o) i
    · rw [if_pos h]
      have e : a - (nth (ol o) i).size < 0 := by simp only [cStr] at h; omega
      refine ⟨_, by (simp (maxSteps := 10000000) -implicitDefEqProofs +contextual (disch := omega) only [ub_laws_szStringS_0, rr_laws_szStringS, lenV_osl, idx_osl, frz_osl, ↓XD, XU, refs, goneIn, Nat.beq, Nat.ble, List.isEmpty, ↓reduceIte, sevalprocAttr, hn, e]) <;> rfl, by simp [Env.get]⟩
    · rw [if_neg h]
      have e : ¬a - (nth (ol o) i).size < 0 := by simp only [cStr] at h; omega
      refine ⟨⟨_, by (simp (maxSteps := 10000000) -implicitDefEqProofs +contextual (disch := omega) only [ub_laws_szStringS_0, rr_laws_szStringS, lenV_osl, idx_osl, frz_osl, ↓XD, XU, refs, goneIn, Nat.beq, Nat.ble, List.isEmpty, ↓reduceIte, sevalprocAttr, hn, e]) <;> rfl, by simp [St.next, trim_all]⟩, by simp only [cStr] at h ⊢; omega⟩
  · rintro i a hi rfl hok
    refine ⟨by simp (maxSteps := 10000000) -implicitDefEqProofs +contextual (disch := omega) only [ub_laws_szStringS_0, rr_laws_szStringS, ↓XD, XU, refs, goneIn, Nat.beq, Nat.ble, List.isEmpty, ↓reduceIte, sevalprocAttr, lenV_osl, Int.lt_irrefl, hok], by simp⟩
theorem el_szStringS (o : Option (List ByteArray)) (left : Int) (h0 : 0 ≤ left) (h1 : left ≤ 1048576) (hb : (ol o).length ≤ 9223372036854775807) (hs : ∀ i : Int, (nth (ol o) i).size ≤ 9223372036854775807) : EP A n_laws_szStringS [osl sv o, .int .i64 left] = some (.int .i64 (rest left ((ol o).length + sumTo (cStr (ol o)) (ol o).length 0))) := by
  have hc : ∀ i, 0 ≤ cStr (ol o) i := fun i => by simp only [cStr]; omega
  have hn := sumTo_nonneg hc (ol o).length 0
  by_cases c1 : left < (ol o).length
  · have e : left - (ol o).length < 0 := by omega
    simp (maxSteps := 10000000) -implicitDefEqProofs +contextual (disch := omega) only [e_laws_szStringS, u_laws_szStringS, rr_laws_szStringS, lenV_osl, frz_osl, ↓XD, XU, refs, goneIn, Nat.beq, Nat.ble, List.isEmpty, ↓reduceIte, sevalprocAttr, e]
    simp only [rest]; rw [if_pos (by omega)]
  · have e : ¬left - (ol o).length < 0 := by omega
    have hl := lp_szStr o (by omega) hs (left - (ol o).length) ⟨by omega, by omega⟩
    have hr := sub_rest hc (ol o).length (left - (ol o).length) (by omega)
    rw [show (((ol o).length : Int) - 0).toNat = (ol o).length by omega] at hl
    cases hi : iterx (gSub (cStr (ol o))) (ol o).length 0 (left - (ol o).length) with
    | inl a =>
      rw [hi] at hl hr
      have hl := hl.1
      simp (maxSteps := 10000000) -implicitDefEqProofs +contextual (disch := omega) only [e_laws_szStringS, u_laws_szStringS, rr_laws_szStringS, lenV_osl, frz_osl, ↓XD, XU, refs, goneIn, Nat.beq, Nat.ble, List.isEmpty, ↓reduceIte, sevalprocAttr, e, hl]
      dsimp only at hr
      rw [hr]; simp only [rest]; congr 2
      split <;> split <;> omega
    | inr u =>
      rw [hi] at hl hr
      obtain ⟨st, hl, g⟩ := hl
      simp (maxSteps := 10000000) -implicitDefEqProofs +contextual (disch := omega) only [e_laws_szStringS, u_laws_szStringS, rr_laws_szStringS, lenV_osl, frz_osl, ↓XD, XU, refs, goneIn, Nat.beq, Nat.ble, List.isEmpty, ↓reduceIte, sevalprocAttr, e, hl, g]
      dsimp only at hr
      have : rest left ((ol o).length + sumTo (cStr (ol o)) (ol o).length 0) = -1 := by rw [hr]; simp only [rest]; split <;> split <;> omega
      rw [this]
end Go.Proofs.Try.Av
end
section
attribute [local congr] ite_congr
set_option linter.unusedSimpArgs false
set_option linter.unusedVariables false
set_option maxRecDepth 10000
set_option maxHeartbeats 400000
namespace Go.Proofs.Try.Av
open Go Go.Av Classical
def szNode (n : RNode) : Int := n.Str.size + (ol n.Refs).length + (ol n.Kids).length
theorem szNode_nonneg (n : RNode) : 0 ≤ szNode n := by simp only [szNode]; omega
structure NodeB (n : RNode) : Prop where
  s : n.Str.size ≤ 9223372036854775807
  r : (ol n.Refs).length ≤ 9223372036854775807
  k : (ol n.Kids).length ≤ 9223372036854775807
theorem el_szNode' (n : RNode) (left : Int) (h0 : 0 ≤ left) (h1 : left ≤ 1048576) (h : NodeB n) : EP A n_laws_szNode [.agg n.cells, .int .i64 left] = some (.int .i64 (rest left (szNode n))) := el_szNode n left h0 h1 h.s h.r h.k
theorem lp_szNode (o : Option (List RNode)) (hb : (ol o).length ≤ 1048576) (hs : ∀ i : Int, NodeB (nth (ol o) i)) (a0 : Int) (hok0 : 0 ≤ a0 ∧ a0 ≤ 1048576) : OnSum (fun (a : Int) => EV A (.loop (B_laws_szNodeS 0)) (⟨[(0, osl RNode.cells o), (1, .int .i64 a0), (4, .int .i64 0), (5, .int .i64 (0))], [], [], []⟩ : St) = some (AExit.exit 0, (⟨[(0, osl RNode.cells o), (1, .int .i64 a), (4, .int .i64 0), (5, .int .i64 ((ol o).length))], [], [], []⟩ : St)) ∧ 0 ≤ a ∧ a ≤ 1048576) (fun (r : Unit) => ∃ st, EV A (.loop (B_laws_szNodeS 0)) (⟨[(0, osl RNode.cells o), (1, .int .i64 a0), (4, .int .i64 0), (5, .int .i64 (0))], [], [], []⟩ : St) = some (.ret, st) ∧ st.per.get 4 = .int .i64 (-1)) (iterx (fun (i : Int) (a : Int) => gSub (fun k => szNode (nth (ol o) k)) i a) (((ol o).length : Int) - 0).toNat (0) a0) := by
  refine loop_iterq (P := A) (body := (B_laws_szNodeS 0)) (fun i (a : Int) => (⟨[(0, osl RNode.cells o), (1, .int .i64 a), (4, .int .i64 0), (5, .int .i64 i)], [], [], []⟩ : St)) (fun (i : Int) (a : Int) => gSub (fun k => szNode (nth (ol o) k)) i a) (fun i (a : Int) => 0 ≤ a ∧ a ≤ 1048576) (fun a => (AExit.exit 0, (⟨[(0, osl RNode.cells o), (1, .int .i64 a), (4, .int .i64 0), (5, .int .i64 ((ol o).length))], [], [], []⟩ : St))) (fun (r : Unit) (st : St) => st.per.get 4 = .int .i64 (-1)) (0) ((ol o).length) ?_ ?_ (0) a0 (by omega) (by omega) hok0
  · intro i a hi hn hok
    have h1 := el_szNode' (nth (ol o) i) a hok.1 hok.2 (hs i)
    simp only [RNode.cells] at h1
    have h2 := szNode_nonneg (nth (ol o) i)
    rw [gSub]
    by_cases h : a < szNode (nth (ol o) i)
    · rw [if_pos h]
      rw [rest, if_pos h] at h1
      refine ⟨_, by (simp (maxSteps := 10000000) -implicitDefEqProofs +contextual (disch := omega) only [ub_laws_szNodeS_0, rr_laws_szNodeS, lenV_osl, idx_osl, frz_osl, refs_osl, RNode.cells, ↓XD, XU, refs, goneIn, Nat.beq, Nat.ble, List.isEmpty, ↓reduceIte, sevalprocAttr, hn, h1]) <;> rfl, by simp [Env.get]⟩
    · rw [if_neg h]
      rw [rest, if_neg h] at h1
      have e : ¬a - szNode (nth (ol o) i) < 0 := by omega
      refine ⟨⟨_, by (simp (maxSteps := 10000000) -implicitDefEqProofs +contextual (disch := omega) only [ub_laws_szNodeS_0, rr_laws_szNodeS, lenV_osl, idx_osl, frz_osl, refs_osl, RNode.cells, ↓XD, XU, refs, goneIn, Nat.beq, Nat.ble, List.isEmpty, ↓reduceIte, sevalprocAttr, hn, h1, e]) <;> rfl, by simp [St.next, trim_all]⟩, by omega⟩
  · rintro i a hi rfl hok
    refine ⟨by simp (maxSteps := 10000000) -implicitDefEqProofs +contextual (disch := omega) only [ub_laws_szNodeS_0, rr_laws_szNodeS, ↓XD, XU, refs, goneIn, Nat.beq, Nat.ble, List.isEmpty, ↓reduceIte, sevalprocAttr, lenV_osl, Int.lt_irrefl, hok], by simp⟩
def szNodes (l : List RNode) : Int := l.length + sumTo (fun k => szNode (nth l k)) l.length 0
theorem el_szNodeS (o : Option (List RNode)) (left : Int) (h0 : 0 ≤ left) (h1 : left ≤ 1048576) (hb : (ol o).length ≤ 9223372036854775807) (hs : ∀ i : Int, NodeB (nth (ol o) i)) : EP A n_laws_szNodeS [osl RNode.cells o, .int .i64 left] = some (.int .i64 (rest left (szNodes (ol o)))) := by
  have hc : ∀ i, 0 ≤ (fun k => szNode (nth (ol o) k)) i := fun i => szNode_nonneg _
  have hn := sumTo_nonneg hc (ol o).length 0
  rw [szNodes]
  by_cases c1 : left < (ol o).length
  · have e : left - (ol o).length < 0 := by omega
    simp (maxSteps := 10000000) -implicitDefEqProofs +contextual (disch := omega) only [e_laws_szNodeS, u_laws_szNodeS, rr_laws_szNodeS, lenV_osl, frz_osl, ↓XD, XU, refs, goneIn, Nat.beq, Nat.ble, List.isEmpty, ↓reduceIte, sevalprocAttr, e]
    simp only [rest]; rw [if_pos (by omega)]
  · have e : ¬left - (ol o).length < 0 := by omega
    have hl := lp_szNode o (by omega) hs (left - (ol o).length) ⟨by omega, by omega⟩
    have hr := sub_rest hc (ol o).length (left - (ol o).length) (by omega)
    rw [show (((ol o).length : Int) - 0).toNat = (ol o).length by omega] at hl
    cases hi : iterx (gSub (fun k => szNode (nth (ol o) k))) (ol o).length 0 (left - (ol o).length) with
    | inl a =>
      rw [hi] at hl hr
      have hl := hl.1
      simp (maxSteps := 10000000) -implicitDefEqProofs +contextual (disch := omega) only [e_laws_szNodeS, u_laws_szNodeS, rr_laws_szNodeS, lenV_osl, frz_osl, ↓XD, XU, refs, goneIn, Nat.beq, Nat.ble, List.isEmpty, ↓reduceIte, sevalprocAttr, e, hl]
      dsimp only at hr
      rw [hr]; simp only [rest]; congr 2
      split <;> split <;> omega
    | inr u =>
      rw [hi] at hl hr
      obtain ⟨st, hl, g⟩ := hl
      simp (maxSteps := 10000000) -implicitDefEqProofs +contextual (disch := omega) only [e_laws_szNodeS, u_laws_szNodeS, rr_laws_szNodeS, lenV_osl, frz_osl, ↓XD, XU, refs, goneIn, Nat.beq, Nat.ble, List.isEmpty, ↓reduceIte, sevalprocAttr, e, hl, g]
      dsimp only at hr
      have : rest left ((ol o).length + sumTo (fun k => szNode (nth (ol o) k)) (ol o).length 0) = -1 := by rw [hr]; simp only [rest]; split <;> split <;> omega
      rw [this]
structure FnB (f : RFn) : Prop where
  s : f.Name.size ≤ 9223372036854775807
  v : (ol f.Vars).length ≤ 9223372036854775807
  vs : ∀ i : Int, (nth (ol f.Vars) i).size ≤ 9223372036854775807
  u : (ol f.Ups).length ≤ 9223372036854775807
  n : (ol f.Nodes).length ≤ 9223372036854775807
  ns : ∀ i : Int, NodeB (nth (ol f.Nodes) i)
def szStrs (l : List ByteArray) : Int := l.length + sumTo (cStr l) l.length 0
def szFn (f : RFn) : Int := f.Name.size + szStrs (ol f.Vars) + (ol f.Ups).length + szNodes (ol f.Nodes)
theorem szStrs_nonneg (l : List ByteArray) : (l.length : Int) ≤ szStrs l := by
  have := sumTo_nonneg (c := cStr l) (fun i => by simp only [cStr]; omega) l.length 0
  simp only [szStrs]; omega
theorem szNodes_nonneg (l : List RNode) : (l.length : Int) ≤ szNodes l := by
  have := sumTo_nonneg (c := fun k => szNode (nth l k)) (fun i => szNode_nonneg _) l.length 0
  simp only [szNodes]; omega
theorem szFn_nonneg (f : RFn) : 0 ≤ szFn f := by
  have := szStrs_nonneg (ol f.Vars); have := szNodes_nonneg (ol f.Nodes)
  simp only [szFn]; omega
theorem el_szFn (f : RFn) (left : Int) (h0 : 0 ≤ left) (h1 : left ≤ 1048576) (hb : FnB f) : EP A n_laws_szFn [.agg f.cells, .int .i64 left] = some (.int .i64 (rest left (szFn f))) := by
  have n1 := szStrs_nonneg (ol f.Vars)
  have n2 := szNodes_nonneg (ol f.Nodes)
  have b1 := hb.s
  rw [szFn]
  by_cases c1 : left < f.Name.size
  · have e : left - f.Name.size < 0 := by omega
    simp (maxSteps := 10000000) -implicitDefEqProofs +contextual (disch := omega) only [e_laws_szFn, u_laws_szFn, rr_laws_szFn, RFn.cells, lenV_osl, frz_osl, isLeaf_osl, ↓XD, XU, refs, goneIn, Nat.beq, Nat.ble, List.isEmpty, ↓reduceIte, sevalprocAttr, e]
    simp only [rest]; rw [if_pos (by omega)]
  · have e : ¬left - f.Name.size < 0 := by omega
    have g1 := el_szStringS f.Vars (left - f.Name.size) (by omega) (by omega) hb.v hb.vs
    by_cases c2 : left - f.Name.size < szStrs (ol f.Vars)
    · rw [← szStrs, rest, if_pos c2] at g1
      simp (maxSteps := 10000000) -implicitDefEqProofs +contextual (disch := omega) only [e_laws_szFn, u_laws_szFn, rr_laws_szFn, RFn.cells, lenV_osl, frz_osl, refs_osl, isLeaf_osl, ↓XD, XU, refs, goneIn, Nat.beq, Nat.ble, List.isEmpty, ↓reduceIte, sevalprocAttr, e, g1]
      simp only [rest]; rw [if_pos (by omega)]
    · rw [← szStrs, rest, if_neg c2] at g1
      have e2 : ¬left - f.Name.size - szStrs (ol f.Vars) < 0 := by omega
      have g2 := el_szUpS f.Ups (left - f.Name.size - szStrs (ol f.Vars)) (by omega) (by omega) hb.u
      by_cases c3 : left - f.Name.size - szStrs (ol f.Vars) < (ol f.Ups).length
      · rw [rest, if_pos c3] at g2
        simp (maxSteps := 10000000) -implicitDefEqProofs +contextual (disch := omega) only [e_laws_szFn, u_laws_szFn, rr_laws_szFn, RFn.cells, lenV_osl, frz_osl, refs_osl, isLeaf_osl, ↓XD, XU, refs, goneIn, Nat.beq, Nat.ble, List.isEmpty, ↓reduceIte, sevalprocAttr, e, e2, g1, g2]
        simp only [rest]; rw [if_pos (by omega)]
      · rw [rest, if_neg c3] at g2
        have e3 : ¬left - f.Name.size - szStrs (ol f.Vars) - (ol f.Ups).length < 0 := by omega
        have g3 := el_szNodeS f.Nodes (left - f.Name.size - szStrs (ol f.Vars) - (ol f.Ups).length) (by omega) (by omega) hb.n hb.ns
        by_cases c4 : left - f.Name.size - szStrs (ol f.Vars) - (ol f.Ups).length < szNodes (ol f.Nodes)
        · rw [rest, if_pos c4] at g3
          simp (maxSteps := 10000000) -implicitDefEqProofs +contextual (disch := omega) only [e_laws_szFn, u_laws_szFn, rr_laws_szFn, RFn.cells, lenV_osl, frz_osl, refs_osl, isLeaf_osl, ↓XD, XU, refs, goneIn, Nat.beq, Nat.ble, List.isEmpty, ↓reduceIte, sevalprocAttr, e, e2, e3, g1, g2, g3]
          simp only [rest]; rw [if_pos (by omega)]
        · rw [rest, if_neg c4] at g3
          have e4 : ¬left - f.Name.size - szStrs (ol f.Vars) - (ol f.Ups).length - szNodes (ol f.Nodes) < 0 := by omega
          simp (maxSteps := 10000000) -implicitDefEqProofs +contextual (disch := omega) only [e_laws_szFn, u_laws_szFn, rr_laws_szFn, RFn.cells, lenV_osl, frz_osl, refs_osl, isLeaf_osl, ↓XD, XU, refs, goneIn, Nat.beq, Nat.ble, List.isEmpty, ↓reduceIte, sevalprocAttr, e, e2, e3, e4, g1, g2, g3]
          simp only [rest]; rw [if_neg (by omega)]; congr 2; omega
theorem lp_szFn (o : Option (List RFn)) (hb : (ol o).length ≤ 1048576) (hs : ∀ i : Int, FnB (nth (ol o) i)) (a0 : Int) (hok0 : 0 ≤ a0 ∧ a0 ≤ 1048576) : OnSum (fun (a : Int) => EV A (.loop (B_laws_szFnS 0)) (⟨[(0, osl RFn.cells o), (1, .int .i64 a0), (4, .int .i64 0), (5, .int .i64 (0))], [], [], []⟩ : St) = some (AExit.exit 0, (⟨[(0, osl RFn.cells o), (1, .int .i64 a), (4, .int .i64 0), (5, .int .i64 ((ol o).length))], [], [], []⟩ : St)) ∧ 0 ≤ a ∧ a ≤ 1048576) (fun (r : Unit) => ∃ st, EV A (.loop (B_laws_szFnS 0)) (⟨[(0, osl RFn.cells o), (1, .int .i64 a0), (4, .int .i64 0), (5, .int .i64 (0))], [], [], []⟩ : St) = some (.ret, st) ∧ st.per.get 4 = .int .i64 (-1)) (iterx (fun (i : Int) (a : Int) => gSub (fun k => szFn (nth (ol o) k)) i a) (((ol o).length : Int) - 0).toNat (0) a0) := by
  refine loop_iterq (P := A) (body := (B_laws_szFnS 0)) (fun i (a : Int) => (⟨[(0, osl RFn.cells o), (1, .int .i64 a), (4, .int .i64 0), (5, .int .i64 i)], [], [], []⟩ : St)) (fun (i : Int) (a : Int) => gSub (fun k => szFn (nth (ol o) k)) i a) (fun i (a : Int) => 0 ≤ a ∧ a ≤ 1048576) (fun a => (AExit.exit 0, (⟨[(0, osl RFn.cells o), (1, .int .i64 a), (4, .int .i64 0), (5, .int .i64 ((ol o).length))], [], [], []⟩ : St))) (fun (r : Unit) (st : St) => st.per.get 4 = .int .i64 (-1)) (0) ((ol o).length) ?_ ?_ (0) a0 (by omega) (by omega) hok0
  · intro i a hi hn hok
    have h1 := el_szFn (nth (ol o) i) a hok.1 hok.2 (hs i)
    simp only [RFn.cells] at h1
    have h2 := szFn_nonneg (nth (ol o) i)
    rw [gSub]
    by_cases h : a < szFn (nth (ol o) i)
    · rw [if_pos h]
      rw [rest, if_pos h] at h1
      refine ⟨_, by (simp (maxSteps := 10000000) -implicitDefEqProofs +contextual (disch := omega) only [ub_laws_szFnS_0, rr_laws_szFnS, lenV_osl, idx_osl, frz_osl, refs_osl, RFn.cells, ↓XD, XU, refs, goneIn, Nat.beq, Nat.ble, List.isEmpty, ↓reduceIte, sevalprocAttr, hn, h1]) <;> rfl, by simp [Env.get]⟩
    · rw [if_neg h]
      rw [rest, if_neg h] at h1
      have e : ¬a - szFn (nth (ol o) i) < 0 := by omega
      refine ⟨⟨_, by (simp (maxSteps := 10000000) -implicitDefEqProofs +contextual (disch := omega) only [ub_laws_szFnS_0, rr_laws_szFnS, lenV_osl, idx_osl, frz_osl, refs_osl, RFn.cells, ↓XD, XU, refs, goneIn, Nat.beq, Nat.ble, List.isEmpty, ↓reduceIte, sevalprocAttr, hn, h1, e]) <;> rfl, by simp [St.next, trim_all]⟩, by omega⟩
  · rintro i a hi rfl hok
    refine ⟨by simp (maxSteps := 10000000) -implicitDefEqProofs +contextual (disch := omega) only [ub_laws_szFnS_0, rr_laws_szFnS, ↓XD, XU, refs, goneIn, Nat.beq, Nat.ble, List.isEmpty, ↓reduceIte, sevalprocAttr, lenV_osl, Int.lt_irrefl, hok], by simp⟩
def szFns (l : List RFn) : Int := l.length + sumTo (fun k => szFn (nth l k)) l.length 0
theorem el_szFnS (o : Option (List RFn)) (left : Int) (h0 : 0 ≤ left) (h1 : left ≤ 1048576) (hb : (ol o).length ≤ 9223372036854775807) (hs : ∀ i : Int, FnB (nth (ol o) i)) : EP A n_laws_szFnS [osl RFn.cells o, .int .i64 left] = some (.int .i64 (rest left (szFns (ol o)))) := by
  have hc : ∀ i, 0 ≤ (fun k => szFn (nth (ol o) k)) i := fun i => szFn_nonneg _
  have hn := sumTo_nonneg hc (ol o).length 0
  rw [szFns]
  by_cases c1 : left < (ol o).length
  · have e : left - (ol o).length < 0 := by omega
    simp (maxSteps := 10000000) -implicitDefEqProofs +contextual (disch := omega) only [e_laws_szFnS, u_laws_szFnS, rr_laws_szFnS, lenV_osl, frz_osl, ↓XD, XU, refs, goneIn, Nat.beq, Nat.ble, List.isEmpty, ↓reduceIte, sevalprocAttr, e]
    simp only [rest]; rw [if_pos (by omega)]
  · have e : ¬left - (ol o).length < 0 := by omega
    have hl := lp_szFn o (by omega) hs (left - (ol o).length) ⟨by omega, by omega⟩
    have hr := sub_rest hc (ol o).length (left - (ol o).length) (by omega)
    rw [show (((ol o).length : Int) - 0).toNat = (ol o).length by omega] at hl
    cases hi : iterx (gSub (fun k => szFn (nth (ol o) k))) (ol o).length 0 (left - (ol o).length) with
    | inl a =>
      rw [hi] at hl hr
      have hl := hl.1
      simp (maxSteps := 10000000) -implicitDefEqProofs +contextual (disch := omega) only [e_laws_szFnS, u_laws_szFnS, rr_laws_szFnS, lenV_osl, frz_osl, ↓XD, XU, refs, goneIn, Nat.beq, Nat.ble, List.isEmpty, ↓reduceIte, sevalprocAttr, e, hl]
      dsimp only at hr
      rw [hr]; simp only [rest]; congr 2
      split <;> split <;> omega
    | inr u =>
      rw [hi] at hl hr
      obtain ⟨st, hl, g⟩ := hl
      simp (maxSteps := 10000000) -implicitDefEqProofs +contextual (disch := omega) only [e_laws_szFnS, u_laws_szFnS, rr_laws_szFnS, lenV_osl, frz_osl, ↓XD, XU, refs, goneIn, Nat.beq, Nat.ble, List.isEmpty, ↓reduceIte, sevalprocAttr, e, hl, g]
      dsimp only at hr
      have : rest left ((ol o).length + sumTo (fun k => szFn (nth (ol o) k)) (ol o).length 0) = -1 := by rw [hr]; simp only [rest]; split <;> split <;> omega
      rw [this]
theorem el_szUnit (o : Option (List RFn)) (hb : (ol o).length ≤ 9223372036854775807) (hs : ∀ i : Int, FnB (nth (ol o) i)) : EP A n_laws_szUnit [.agg (runit o), .int .i64 1048576] = some (.int .i64 (rest 1048576 (szFns (ol o)))) := by
  have g := el_szFnS o 1048576 (by omega) (by omega) hb hs
  by_cases c : (1048576 : Int) < szFns (ol o)
  · rw [rest, if_pos c] at g ⊢
    simp (maxSteps := 10000000) -implicitDefEqProofs +contextual (disch := omega) only [e_laws_szUnit, u_laws_szUnit, rr_laws_szUnit, runit, lenV_osl, frz_osl, refs_osl, isLeaf_osl, ↓XD, XU, refs, goneIn, Nat.beq, Nat.ble, List.isEmpty, ↓reduceIte, sevalprocAttr, g]
  · rw [rest, if_neg c] at g ⊢
    have e : ¬1048576 - szFns (ol o) < 0 := by omega
    simp (maxSteps := 10000000) -implicitDefEqProofs +contextual (disch := omega) only [e_laws_szUnit, u_laws_szUnit, rr_laws_szUnit, runit, lenV_osl, frz_osl, refs_osl, isLeaf_osl, ↓XD, XU, refs, goneIn, Nat.beq, Nat.ble, List.isEmpty, ↓reduceIte, sevalprocAttr, g, e]
end Go.Proofs.Try.Av
end
section
attribute [local congr] ite_congr
set_option linter.unusedSimpArgs false
set_option linter.unusedVariables false
set_option maxRecDepth 10000
set_option maxHeartbeats 400000
namespace Go.Proofs.Try.Av
open Go Go.Av Classical
theorem iter_map {α : Type} [Inhabited α] (l : List α) (g : α → α) (z : α) : iter (fun (i : Int) (a : List α) => a.set i.toNat (g (nth l i))) ((l.length : Int) - 0).toNat 0 (List.replicate l.length z) = l.map g := by
  have H : ∀ (m : Nat) (i : Int) (a : List α), 0 ≤ i → i + m = l.length → a.length = l.length → (∀ k : Int, 0 ≤ k → k < i → nth a k = g (nth l k)) → (iter (fun (i : Int) (a : List α) => a.set i.toNat (g (nth l i))) m i a).length = l.length ∧ ∀ k : Int, 0 ≤ k → k < l.length → nth (iter (fun (i : Int) (a : List α) => a.set i.toNat (g (nth l i))) m i a) k = g (nth l k) := by
    intro m
    induction m with
    | zero => intro i a h0 h1 h2 h3; exact ⟨h2, fun k k0 k1 => h3 k k0 (by omega)⟩
    | succ m ih =>
      intro i a h0 h1 h2 h3
      refine ih (i + 1) _ (by omega) (by omega) (by simpa using h2) fun k k0 k1 => ?_
      rw [nth_set h0 (by omega) k0]
      by_cases h : i = k
      · rw [if_pos h, h]
      · rw [if_neg h]; exact h3 k k0 (by omega)
  obtain ⟨h1, h2⟩ := H ((l.length : Int) - 0).toNat 0 (List.replicate l.length z) (by omega) (by omega) (by simp) (fun k k0 k1 => by omega)
  refine nth_ext (by simpa using h1) fun k k0 k1 => ?_
  rw [h1] at k1
  rw [h2 k k0 k1, nth_get k0 k1, nth_get k0 (by simpa using k1)]
  simp
theorem set_str (l : List ByteArray) (i : Nat) (v : ByteArray) : (l.map sv).set i [.str v] = (l.set i v).map sv := by rw [List.map_set]
theorem rep_str (n : Nat) (v : ByteArray) : List.replicate n [PV.str v] = (List.replicate n v).map sv := by rw [List.map_replicate]
theorem set_up (l : List Up) (i : Nat) (b : Bool) (k : Int) : (l.map Up.cells).set i [.bool b, .int .i64 k] = (l.set i ⟨b, k⟩).map Up.cells := by rw [List.map_set]
theorem rep_up (n : Nat) (b : Bool) (k : Int) : List.replicate n [PV.bool b, PV.int .i64 k] = (List.replicate n (Up.mk b k)).map Up.cells := by rw [List.map_replicate]
theorem frzS_up (xs : List Up) (d : Nat) (H : Heap) (len tot s : Nat) (h1 : len = xs.length) (h2 : tot = xs.length) : frzS (d + 1) H 0 len tot (some (.cells s (xs.map Up.cells))) = .fz (xs.map Up.cells) := frzS_map _ xs _ H len tot s (fun _ _ => rfl) h1 h2
theorem lp_toInt (o : Option (List Int)) (hb : (ol o).length ≤ 1048576) (a0 : List Int) (hok0 : a0.length = (ol o).length) : EV A (.loop (B_laws_toIntS 0)) (⟨[(0, osl iv o), (2, .nils), (3, .sl 0 0 (ol o).length (ol o).length), (4, .int .i64 (0))], [], [.cells 1 (a0.map iv)], []⟩ : St) = some (AExit.exit 0, (⟨[(0, osl iv o), (2, .nils), (3, .sl 0 0 (ol o).length (ol o).length), (4, .int .i64 ((ol o).length))], [], [.cells 1 ((iter (fun (i : Int) (a : List Int) => a.set i.toNat (nth (ol o) i)) (((ol o).length : Int) - 0).toNat (0) a0).map iv)], []⟩ : St)) ∧ (iter (fun (i : Int) (a : List Int) => a.set i.toNat (nth (ol o) i)) (((ol o).length : Int) - 0).toNat (0) a0).length = (ol o).length := by
  refine loop_iter (fun i (a : List Int) => (⟨[(0, osl iv o), (2, .nils), (3, .sl 0 0 (ol o).length (ol o).length), (4, .int .i64 i)], [], [.cells 1 (a.map iv)], []⟩ : St)) (fun (i : Int) (a : List Int) => a.set i.toNat (nth (ol o) i)) (fun i (a : List Int) => a.length = (ol o).length) (fun a => (AExit.exit 0, (⟨[(0, osl iv o), (2, .nils), (3, .sl 0 0 (ol o).length (ol o).length), (4, .int .i64 ((ol o).length))], [], [.cells 1 (a.map iv)], []⟩ : St))) (0) ((ol o).length) ?_ ?_ (0) a0 (by omega) (by omega) hok0
  · intro i a hi hn hok
    refine ⟨⟨_, by simp (maxSteps := 10000000) -implicitDefEqProofs +contextual (disch := omega) only [ub_laws_toIntS_0, rr_laws_toIntS, ↓XD, XU, refs, goneIn, Nat.beq, Nat.ble, List.isEmpty, ↓reduceIte, sevalprocAttr, lenV_osl, idx_osl, iv, hn, hok]; rfl, by first | (simp [St.next, trim_all]; done) | (simp [St.next, trim_all]; omega) | (simp [St.next, trim, bare, refsL, refs]; done)⟩, by simp; omega⟩
  · rintro i a hi rfl hok
    refine ⟨by simp (maxSteps := 10000000) -implicitDefEqProofs +contextual (disch := omega) only [ub_laws_toIntS_0, rr_laws_toIntS, ↓XD, XU, refs, goneIn, Nat.beq, Nat.ble, List.isEmpty, ↓reduceIte, sevalprocAttr, lenV_osl, idx_osl, iv, Int.lt_irrefl, hok], by simp⟩
theorem el_toIntS (o : Option (List Int)) (hb : (ol o).length ≤ 1048576) : EP A n_laws_toIntS [osl iv o] = some (osl iv (some (ol o))) := by
  have hl := (lp_toInt o hb (List.replicate (ol o).length 0) (by simp)).1
  have e := iter_map (ol o) id 0
  simp only [id_eq, List.map_id] at e
  rw [e] at hl
  simp (maxSteps := 10000000) -implicitDefEqProofs +contextual (disch := omega) only [e_laws_toIntS, u_laws_toIntS, rr_laws_toIntS, lenV_osl, frz_osl, osl_some, iv, ↓XD, XU, refs, goneIn, Nat.beq, Nat.ble, List.isEmpty, ↓reduceIte, sevalprocAttr, hl]
theorem lp_toStr (o : Option (List ByteArray)) (hb : (ol o).length ≤ 1048576) (a0 : List ByteArray) (hok0 : a0.length = (ol o).length) : EV A (.loop (B_laws_toStringS 0)) (⟨[(0, osl sv o), (2, .nils), (3, .sl 0 0 (ol o).length (ol o).length), (4, .int .i64 (0))], [], [.cells 1 (a0.map sv)], []⟩ : St) = some (AExit.exit 0, (⟨[(0, osl sv o), (2, .nils), (3, .sl 0 0 (ol o).length (ol o).length), (4, .int .i64 ((ol o).length))], [], [.cells 1 ((iter (fun (i : Int) (a : List ByteArray) => a.set i.toNat (nth (ol o) i)) (((ol o).length : Int) - 0).toNat (0) a0).map sv)], []⟩ : St)) ∧ (iter (fun (i : Int) (a : List ByteArray) => a.set i.toNat (nth (ol o) i)) (((ol o).length : Int) - 0).toNat (0) a0).length = (ol o).length := by
  refine loop_iter (fun i (a : List ByteArray) => (⟨[(0, osl sv o), (2, .nils), (3, .sl 0 0 (ol o).length (ol o).length), (4, .int .i64 i)], [], [.cells 1 (a.map sv)], []⟩ : St)) (fun (i : Int) (a : List ByteArray) => a.set i.toNat (nth (ol o) i)) (fun i (a : List ByteArray) => a.length = (ol o).length) (fun a => (AExit.exit 0, (⟨[(0, osl sv o), (2, .nils), (3, .sl 0 0 (ol o).length (ol o).length), (4, .int .i64 ((ol o).length))], [], [.cells 1 (a.map sv)], []⟩ : St))) (0) ((ol o).length) ?_ ?_ (0) a0 (by omega) (by omega) hok0
  · intro i a hi hn hok
    refine ⟨⟨_, by simp (maxSteps := 10000000) -implicitDefEqProofs +contextual (disch := omega) only [ub_laws_toStringS_0, rr_laws_toStringS, ↓XD, XU, refs, goneIn, Nat.beq, Nat.ble, List.isEmpty, ↓reduceIte, sevalprocAttr, lenV_osl, idx_osl, sv, set_str, hn, hok]; rfl, by first | (simp [St.next, trim_all]; done) | (simp [St.next, trim_all]; omega) | (simp [St.next, trim, bare, refsL, refs]; done)⟩, by simp; omega⟩
  · rintro i a hi rfl hok
    refine ⟨by simp (maxSteps := 10000000) -implicitDefEqProofs +contextual (disch := omega) only [ub_laws_toStringS_0, rr_laws_toStringS, ↓XD, XU, refs, goneIn, Nat.beq, Nat.ble, List.isEmpty, ↓reduceIte, sevalprocAttr, lenV_osl, idx_osl, sv, set_str, Int.lt_irrefl, hok], by simp⟩
theorem el_toStringS (o : Option (List ByteArray)) (hb : (ol o).length ≤ 1048576) : EP A n_laws_toStringS [osl sv o] = some (osl sv (some (ol o))) := by
  have hl := (lp_toStr o hb (List.replicate (ol o).length ⟨#[]⟩) (by simp)).1
  have e := iter_map (ol o) id ⟨#[]⟩
  simp only [id_eq, List.map_id] at e
  rw [e] at hl
  simp (maxSteps := 10000000) -implicitDefEqProofs +contextual (disch := omega) only [e_laws_toStringS, u_laws_toStringS, rr_laws_toStringS, lenV_osl, frz_osl, osl_some, rep_str, sv, ↓XD, XU, refs, goneIn, Nat.beq, Nat.ble, List.isEmpty, ↓reduceIte, sevalprocAttr, hl]
theorem el_toUp (u : Up) : EP A n_laws_toUp [.agg u.cells] = some (.agg u.cells) := by
  simp (maxSteps := 10000000) -implicitDefEqProofs +contextual (disch := omega) only [e_laws_toUp, u_laws_toUp, rr_laws_toUp, Up.cells, ↓XD, XU, refs, goneIn, Nat.beq, Nat.ble, List.isEmpty, ↓reduceIte, sevalprocAttr]
theorem lp_toUp (o : Option (List Up)) (hb : (ol o).length ≤ 1048576) (a0 : List Up) (hok0 : a0.length = (ol o).length) : EV A (.loop (B_laws_toUpS 0)) (⟨[(0, osl Up.cells o), (2, .nils), (3, .sl 0 0 (ol o).length (ol o).length), (4, .int .i64 (0))], [], [.cells 2 (a0.map Up.cells)], []⟩ : St) = some (AExit.exit 0, (⟨[(0, osl Up.cells o), (2, .nils), (3, .sl 0 0 (ol o).length (ol o).length), (4, .int .i64 ((ol o).length))], [], [.cells 2 ((iter (fun (i : Int) (a : List Up) => a.set i.toNat (nth (ol o) i)) (((ol o).length : Int) - 0).toNat (0) a0).map Up.cells)], []⟩ : St)) ∧ (iter (fun (i : Int) (a : List Up) => a.set i.toNat (nth (ol o) i)) (((ol o).length : Int) - 0).toNat (0) a0).length = (ol o).length := by
  refine loop_iter (fun i (a : List Up) => (⟨[(0, osl Up.cells o), (2, .nils), (3, .sl 0 0 (ol o).length (ol o).length), (4, .int .i64 i)], [], [.cells 2 (a.map Up.cells)], []⟩ : St)) (fun (i : Int) (a : List Up) => a.set i.toNat (nth (ol o) i)) (fun i (a : List Up) => a.length = (ol o).length) (fun a => (AExit.exit 0, (⟨[(0, osl Up.cells o), (2, .nils), (3, .sl 0 0 (ol o).length (ol o).length), (4, .int .i64 ((ol o).length))], [], [.cells 2 (a.map Up.cells)], []⟩ : St))) (0) ((ol o).length) ?_ ?_ (0) a0 (by omega) (by omega) hok0
  · intro i a hi hn hok
    refine ⟨⟨_, by simp (maxSteps := 10000000) -implicitDefEqProofs +contextual (disch := omega) only [ub_laws_toUpS_0, rr_laws_toUpS, ↓XD, XU, refs, goneIn, Nat.beq, Nat.ble, List.isEmpty, ↓reduceIte, sevalprocAttr, lenV_osl, idx_osl, Up.cells, el_toUp, set_up, hn, hok]; rfl, by first | (simp [St.next, trim_all]; done) | (simp [St.next, trim_all]; omega) | (simp [St.next, trim, bare, refsL, refs]; done)⟩, by simp; omega⟩
  · rintro i a hi rfl hok
    refine ⟨by simp (maxSteps := 10000000) -implicitDefEqProofs +contextual (disch := omega) only [ub_laws_toUpS_0, rr_laws_toUpS, ↓XD, XU, refs, goneIn, Nat.beq, Nat.ble, List.isEmpty, ↓reduceIte, sevalprocAttr, lenV_osl, idx_osl, Up.cells, el_toUp, set_up, Int.lt_irrefl, hok], by simp⟩
theorem el_toUpS (o : Option (List Up)) (hb : (ol o).length ≤ 1048576) : EP A n_laws_toUpS [osl Up.cells o] = some (osl Up.cells (some (ol o))) := by
  have hl := (lp_toUp o hb (List.replicate (ol o).length ⟨false, 0⟩) (by simp)).1
  have e := iter_map (ol o) id ⟨false, 0⟩
  simp only [id_eq, List.map_id] at e
  rw [e] at hl
  simp (maxSteps := 10000000) -implicitDefEqProofs +contextual (disch := omega) only [e_laws_toUpS, u_laws_toUpS, rr_laws_toUpS, lenV_osl, frz_osl, osl_some, rep_up, frzS_up, Up.cells, ↓XD, XU, refs, goneIn, Nat.beq, Nat.ble, List.isEmpty, ↓reduceIte, sevalprocAttr, hl]
end Go.Proofs.Try.Av
end
section
attribute [local congr] ite_congr
set_option linter.unusedSimpArgs false
set_option linter.unusedVariables false
set_option maxRecDepth 10000
set_option maxHeartbeats 400000
namespace Go.Proofs.Try.Av
open Go Go.Av Classical
def RNode.norm (n : RNode) : RNode := { n with Refs := some (ol n.Refs), Kids := some (ol n.Kids) }
def RFn.norm (f : RFn) : RFn := { f with Vars := some (ol f.Vars), Ups := some (ol f.Ups), Nodes := some ((ol f.Nodes).map RNode.norm) }
structure NodeS (n : RNode) : Prop where
  r : (ol n.Refs).length ≤ 1048576
  k : (ol n.Kids).length ≤ 1048576
theorem el_toNode (n : RNode) (h : NodeS n) : EP A n_laws_toNode [.agg n.cells] = some (.agg n.norm.cells) := by
  have g1 := el_toIntS n.Refs h.r
  have g2 := el_toIntS n.Kids h.k
  simp (maxSteps := 10000000) -implicitDefEqProofs +contextual (disch := omega) only [e_laws_toNode, u_laws_toNode, rr_laws_toNode, RNode.cells, frz_osl, refs_osl, isLeaf_osl, cellsOf_osl, ↓XD, XU, refs, goneIn, Nat.beq, Nat.ble, List.isEmpty, ↓reduceIte, sevalprocAttr, g1, g2]
  rfl
def zN : RNode := ⟨0, 0, 0, 0, 0, ⟨#[]⟩, none, none⟩
theorem set_rnode (a : List RNode) (i : Nat) (k l o m : Int) (f : Nat) (s : ByteArray) (r q : Option (List Int)) : (a.map RNode.cells).set i [.int .i64 k, .int .i64 l, .int .i64 o, .int .i64 m, .flt .f64 f, .str s, osl iv r, osl iv q] = (a.set i ⟨k, l, o, m, f, s, r, q⟩).map RNode.cells := by rw [List.map_set]
theorem rep_rnode (n : Nat) : List.replicate n [PV.int .i64 0, .int .i64 0, .int .i64 0, .int .i64 0, .flt .f64 0, .str ⟨#[]⟩, .nils, .nils] = (List.replicate n zN).map RNode.cells := by rw [List.map_replicate]; rfl
theorem frzS_rnode (xs : List RNode) (d : Nat) (H : Heap) (len tot s : Nat) (h1 : len = xs.length) (h2 : tot = xs.length) : frzS (d + 1) H 0 len tot (some (.cells s (xs.map RNode.cells))) = .fz (xs.map RNode.cells) := frzS_map _ xs _ H len tot s (fun x _ => by simp only [RNode.cells, List.map_cons, List.map_nil, frz_int, frz_flt, frz_str, frz_osl]) h1 h2
theorem lp_toNode (o : Option (List RNode)) (hb : (ol o).length ≤ 1048576) (hs : ∀ i : Int, NodeS (nth (ol o) i)) (a0 : List RNode) (hok0 : a0.length = (ol o).length) : EV A (.loop (B_laws_toNodeS 0)) (⟨[(0, osl RNode.cells o), (2, .nils), (3, .sl 0 0 (ol o).length (ol o).length), (4, .int .i64 (0))], [], [.cells 8 (a0.map RNode.cells)], []⟩ : St) = some (AExit.exit 0, (⟨[(0, osl RNode.cells o), (2, .nils), (3, .sl 0 0 (ol o).length (ol o).length), (4, .int .i64 ((ol o).length))], [], [.cells 8 ((iter (fun (i : Int) (a : List RNode) => a.set i.toNat (nth (ol o) i).norm) (((ol o).length : Int) - 0).toNat (0) a0).map RNode.cells)], []⟩ : St)) ∧ (iter (fun (i : Int) (a : List RNode) => a.set i.toNat (nth (ol o) i).norm) (((ol o).length : Int) - 0).toNat (0) a0).length = (ol o).length := by
  refine loop_iter (fun i (a : List RNode) => (⟨[(0, osl RNode.cells o), (2, .nils), (3, .sl 0 0 (ol o).length (ol o).length), (4, .int .i64 i)], [], [.cells 8 (a.map RNode.cells)], []⟩ : St)) (fun (i : Int) (a : List RNode) => a.set i.toNat (nth (ol o) i).norm) (fun i (a : List RNode) => a.length = (ol o).length) (fun a => (AExit.exit 0, (⟨[(0, osl RNode.cells o), (2, .nils), (3, .sl 0 0 (ol o).length (ol o).length), (4, .int .i64 ((ol o).length))], [], [.cells 8 (a.map RNode.cells)], []⟩ : St))) (0) ((ol o).length) ?_ ?_ (0) a0 (by omega) (by omega) hok0
  · intro i a hi hn hok
    have hg := el_toNode (nth (ol o) i) (hs i); simp only [RNode.cells, RNode.norm] at hg
    refine ⟨⟨_, by simp (maxSteps := 10000000) -implicitDefEqProofs +contextual (disch := omega) only [ub_laws_toNodeS_0, rr_laws_toNodeS, ↓XD, XU, refs, goneIn, Nat.beq, Nat.ble, List.isEmpty, ↓reduceIte, sevalprocAttr, lenV_osl, idx_osl, frz_osl, refs_osl, isLeaf_osl, RNode.cells, RNode.norm, set_rnode, hg, hn, hok]; rfl, by first | (simp [St.next, trim_all, RNode.norm]; done) | (simp [St.next, trim_all, RNode.norm]; omega) | (simp [St.next, trim, bare, refsL, refs, RNode.norm]; done)⟩, by simp; omega⟩
  · rintro i a hi rfl hok
    refine ⟨by simp (maxSteps := 10000000) -implicitDefEqProofs +contextual (disch := omega) only [ub_laws_toNodeS_0, rr_laws_toNodeS, ↓XD, XU, refs, goneIn, Nat.beq, Nat.ble, List.isEmpty, ↓reduceIte, sevalprocAttr, lenV_osl, idx_osl, frz_osl, refs_osl, isLeaf_osl, RNode.cells, RNode.norm, set_rnode, Int.lt_irrefl, hok], by simp⟩
theorem el_toNodeS (o : Option (List RNode)) (hb : (ol o).length ≤ 1048576) (hs : ∀ i : Int, NodeS (nth (ol o) i)) : EP A n_laws_toNodeS [osl RNode.cells o] = some (osl RNode.cells (some ((ol o).map RNode.norm))) := by
  have hl := (lp_toNode o hb hs (List.replicate (ol o).length zN) (by simp)).1
  have e := iter_map (ol o) RNode.norm zN
  rw [e] at hl
  simp (maxSteps := 10000000) -implicitDefEqProofs +contextual (disch := omega) only [e_laws_toNodeS, u_laws_toNodeS, rr_laws_toNodeS, lenV_osl, frz_osl, osl_some, rep_rnode, ↓XD, XU, refs, goneIn, Nat.beq, Nat.ble, List.isEmpty, ↓reduceIte, sevalprocAttr, hl]
  rw [frzS_rnode _ _ _ _ _ _ (by simp) (by simp)]
structure FnS (f : RFn) : Prop where
  v : (ol f.Vars).length ≤ 1048576
  u : (ol f.Ups).length ≤ 1048576
  n : (ol f.Nodes).length ≤ 1048576
  ns : ∀ i : Int, NodeS (nth (ol f.Nodes) i)
theorem el_toFn (f : RFn) (h : FnS f) : EP A n_laws_toFn [.agg f.cells] = some (.agg f.norm.cells) := by
  have g1 := el_toStringS f.Vars h.v
  have g2 := el_toUpS f.Ups h.u
  have g3 := el_toNodeS f.Nodes h.n h.ns
  simp (maxSteps := 10000000) -implicitDefEqProofs +contextual (disch := omega) only [e_laws_toFn, u_laws_toFn, rr_laws_toFn, RFn.cells, frz_osl, refs_osl, isLeaf_osl, cellsOf_osl, ↓XD, XU, refs, goneIn, Nat.beq, Nat.ble, List.isEmpty, ↓reduceIte, sevalprocAttr, g1, g2, g3]
  rfl
def zF : RFn := ⟨⟨#[]⟩, 0, 0, false, none, none, none⟩
theorem set_rfn (a : List RFn) (i : Nat) (s : ByteArray) (l p : Int) (b : Bool) (v : Option (List ByteArray)) (u : Option (List Up)) (n : Option (List RNode)) : (a.map RFn.cells).set i [.str s, .int .i64 l, .int .i64 p, .bool b, osl sv v, osl Up.cells u, osl RNode.cells n] = (a.set i ⟨s, l, p, b, v, u, n⟩).map RFn.cells := by rw [List.map_set]
theorem rep_rfn (n : Nat) : List.replicate n [PV.str ⟨#[]⟩, .int .i64 0, .int .i64 0, .bool false, .nils, .nils, .nils] = (List.replicate n zF).map RFn.cells := by rw [List.map_replicate]; rfl
theorem frzS_rfn (xs : List RFn) (d : Nat) (H : Heap) (len tot s : Nat) (h1 : len = xs.length) (h2 : tot = xs.length) : frzS (d + 1) H 0 len tot (some (.cells s (xs.map RFn.cells))) = .fz (xs.map RFn.cells) := frzS_map _ xs _ H len tot s (fun x _ => by simp only [RFn.cells, List.map_cons, List.map_nil, frz_int, frz_bool, frz_str, frz_osl]) h1 h2
theorem lp_toFn (o : Option (List RFn)) (hb : (ol o).length ≤ 1048576) (hs : ∀ i : Int, FnS (nth (ol o) i)) (a0 : List RFn) (hok0 : a0.length = (ol o).length) : EV A (.loop (B_laws_toFnS 0)) (⟨[(0, osl RFn.cells o), (2, .nils), (3, .sl 0 0 (ol o).length (ol o).length), (4, .int .i64 (0))], [], [.cells 7 (a0.map RFn.cells)], []⟩ : St) = some (AExit.exit 0, (⟨[(0, osl RFn.cells o), (2, .nils), (3, .sl 0 0 (ol o).length (ol o).length), (4, .int .i64 ((ol o).length))], [], [.cells 7 ((iter (fun (i : Int) (a : List RFn) => a.set i.toNat (nth (ol o) i).norm) (((ol o).length : Int) - 0).toNat (0) a0).map RFn.cells)], []⟩ : St)) ∧ (iter (fun (i : Int) (a : List RFn) => a.set i.toNat (nth (ol o) i).norm) (((ol o).length : Int) - 0).toNat (0) a0).length = (ol o).length := by
  refine loop_iter (fun i (a : List RFn) => (⟨[(0, osl RFn.cells o), (2, .nils), (3, .sl 0 0 (ol o).length (ol o).length), (4, .int .i64 i)], [], [.cells 7 (a.map RFn.cells)], []⟩ : St)) (fun (i : Int) (a : List RFn) => a.set i.toNat (nth (ol o) i).norm) (fun i (a : List RFn) => a.length = (ol o).length) (fun a => (AExit.exit 0, (⟨[(0, osl RFn.cells o), (2, .nils), (3, .sl 0 0 (ol o).length (ol o).length), (4, .int .i64 ((ol o).length))], [], [.cells 7 (a.map RFn.cells)], []⟩ : St))) (0) ((ol o).length) ?_ ?_ (0) a0 (by omega) (by omega) hok0
  · intro i a hi hn hok
    have hg := el_toFn (nth (ol o) i) (hs i); simp only [RFn.cells, RFn.norm] at hg
    refine ⟨⟨_, by simp (maxSteps := 10000000) -implicitDefEqProofs +contextual (disch := omega) only [ub_laws_toFnS_0, rr_laws_toFnS, ↓XD, XU, refs, goneIn, Nat.beq, Nat.ble, List.isEmpty, ↓reduceIte, sevalprocAttr, lenV_osl, idx_osl, frz_osl, refs_osl, isLeaf_osl, RFn.cells, RFn.norm, set_rfn, hg, hn, hok]; rfl, by first | (simp [St.next, trim_all, RFn.norm]; done) | (simp [St.next, trim_all, RFn.norm]; omega) | (simp [St.next, trim, bare, refsL, refs, RFn.norm]; done)⟩, by simp; omega⟩
  · rintro i a hi rfl hok
    refine ⟨by simp (maxSteps := 10000000) -implicitDefEqProofs +contextual (disch := omega) only [ub_laws_toFnS_0, rr_laws_toFnS, ↓XD, XU, refs, goneIn, Nat.beq, Nat.ble, List.isEmpty, ↓reduceIte, sevalprocAttr, lenV_osl, idx_osl, frz_osl, refs_osl, isLeaf_osl, RFn.cells, RFn.norm, set_rfn, Int.lt_irrefl, hok], by simp⟩
theorem el_toFnS (o : Option (List RFn)) (hb : (ol o).length ≤ 1048576) (hs : ∀ i : Int, FnS (nth (ol o) i)) : EP A n_laws_toFnS [osl RFn.cells o] = some (osl RFn.cells (some ((ol o).map RFn.norm))) := by
  have hl := (lp_toFn o hb hs (List.replicate (ol o).length zF) (by simp)).1
  have e := iter_map (ol o) RFn.norm zF
  rw [e] at hl
  simp (maxSteps := 10000000) -implicitDefEqProofs +contextual (disch := omega) only [e_laws_toFnS, u_laws_toFnS, rr_laws_toFnS, lenV_osl, frz_osl, osl_some, rep_rfn, ↓XD, XU, refs, goneIn, Nat.beq, Nat.ble, List.isEmpty, ↓reduceIte, sevalprocAttr, hl]
  rw [frzS_rfn _ _ _ _ _ _ (by simp) (by simp)]
theorem el_toUnit (o : Option (List RFn)) (hb : (ol o).length ≤ 1048576) (hs : ∀ i : Int, FnS (nth (ol o) i)) : EP A n_laws_toUnit [.agg (runit o)] = some (.agg (runit (some ((ol o).map RFn.norm)))) := by
  have g := el_toFnS o hb hs
  simp (maxSteps := 10000000) -implicitDefEqProofs +contextual (disch := omega) only [e_laws_toUnit, u_laws_toUnit, rr_laws_toUnit, runit, frz_osl, refs_osl, isLeaf_osl, cellsOf_osl, ↓XD, XU, refs, goneIn, Nat.beq, Nat.ble, List.isEmpty, ↓reduceIte, sevalprocAttr, g]
def RNode.to (n : RNode) : Node := ⟨n.Kind, n.Line, n.Op, n.Num, n.Flt, n.Str, ol n.Refs, ol n.Kids⟩
def RFn.to (f : RFn) : Fn := ⟨f.Name, f.Line, f.Params, f.Rest, ol f.Vars, ol f.Ups, (ol f.Nodes).map RNode.to⟩
theorem norm_node (n : RNode) : n.norm.cells = n.to.cells := rfl
theorem norm_fn (f : RFn) : f.norm.cells = f.to.cells := by
  simp only [RFn.norm, RFn.to, RFn.cells, Fn.cells, osl_some, strs, ups, nodes, List.map_map]
  rfl
theorem norm_unit (l : List RFn) : runit (some (l.map RFn.norm)) = [fns (l.map RFn.to)] := by
  simp only [runit, osl_some, fns, List.map_map]
  congr 2
  exact List.map_congr_left fun f _ => norm_fn f
end Go.Proofs.Try.Av
end
section
attribute [local congr] ite_congr
set_option linter.unusedSimpArgs false
set_option linter.unusedVariables false
set_option maxRecDepth 10000
set_option maxHeartbeats 400000
namespace Go.Proofs.Try.Av
open Go Go.Av Classical
theorem el_eqFault (c f n : Int) : EP A n_laws_eqFault [.agg (flt3 c f n), .agg (flt3 c f n)] = some (.bool true) := by
  simp (maxSteps := 10000000) -implicitDefEqProofs +contextual (disch := omega) only [e_laws_eqFault, u_laws_eqFault, rr_laws_eqFault, ↓XD, XU, refs, goneIn, Nat.beq, Nat.ble, List.isEmpty, ↓reduceIte, sevalprocAttr]
theorem one_read : Ieee.double.read 4607182418800017408 = .number false 4503599627370496 (-52) := by decide
theorem div_one (x : Nat) (h : FloatKind.f64.format.order x 0 = some .eq) : ∃ r, FloatKind.f64.format.div 4607182418800017408 x = some r := by
  have h' : (Ieee.double.read x).order (Ieee.double.read 0) = some .eq := h
  show ∃ r, (Ieee.Datum.quotient (Ieee.double.fractionBits + 2) (Ieee.double.read 4607182418800017408) (Ieee.double.read x)).map Ieee.double.write = some r
  rw [one_read]
  cases hx : Ieee.double.read x with
  | nan s n => rw [hx] at h'; cases h'
  | infinity s => exact ⟨_, rfl⟩
  | number s m i =>
    simp only [Ieee.Datum.quotient]
    split
    · exact ⟨_, rfl⟩
    · exact ⟨_, rfl⟩
theorem bin_fquo (k : FloatKind) (x y r : Nat) (h : k.format.div x y = some r) : Av.bin .quo (.flt k x) (.flt k y) = some (.flt k r) := by simp [Av.bin, binFlt, h]
theorem el_sameFloat (x : Nat) : EP A n_laws_sameFloat [.flt .f64 x, .flt .f64 x] = some (.bool true) := by
  by_cases h0 : FloatKind.f64.format.order x x = some .eq
  · by_cases h : FloatKind.f64.format.order x 0 = some .eq
    · obtain ⟨r, hr⟩ := div_one x h
      have hq := bin_fquo .f64 4607182418800017408 x r hr
      simp (maxSteps := 10000000) -implicitDefEqProofs +contextual (disch := omega) only [e_laws_sameFloat, u_laws_sameFloat, rr_laws_sameFloat, ↓XD, XU, refs, goneIn, Nat.beq, Nat.ble, List.isEmpty, ↓reduceIte, sevalprocAttr, h0, h, hq]
    · simp (maxSteps := 10000000) -implicitDefEqProofs +contextual (disch := omega) only [e_laws_sameFloat, u_laws_sameFloat, rr_laws_sameFloat, ↓XD, XU, refs, goneIn, Nat.beq, Nat.ble, List.isEmpty, ↓reduceIte, sevalprocAttr, h0, h]
  · simp (maxSteps := 10000000) -implicitDefEqProofs +contextual (disch := omega) only [e_laws_sameFloat, u_laws_sameFloat, rr_laws_sameFloat, ↓XD, XU, refs, goneIn, Nat.beq, Nat.ble, List.isEmpty, ↓reduceIte, sevalprocAttr, h0]
theorem el_eqUp (u : Up) : EP A n_laws_eqUp [.agg u.cells, .agg u.cells] = some (.bool true) := by
  simp (maxSteps := 10000000) -implicitDefEqProofs +contextual (disch := omega) only [e_laws_eqUp, u_laws_eqUp, rr_laws_eqUp, Up.cells, ↓XD, XU, refs, goneIn, Nat.beq, Nat.ble, List.isEmpty, ↓reduceIte, sevalprocAttr]
theorem lq_Int (l : List Int) (hb : l.length ≤ 1048576) (a0 : Unit) (hok0 : True) : EV A (.loop (B_laws_eqIntS 0)) (⟨[(0, .fz (l.map (fun k => [.int .i64 k]))), (1, .fz (l.map (fun k => [.int .i64 k]))), (4, .bool false), (5, .int .i64 (0))], [], [], []⟩ : St) = some (AExit.exit 0, (⟨[(0, .fz (l.map (fun k => [.int .i64 k]))), (1, .fz (l.map (fun k => [.int .i64 k]))), (4, .bool false), (5, .int .i64 (l.length))], [], [], []⟩ : St)) ∧ True := by
  refine loop_iter (fun i (a : Unit) => (⟨[(0, .fz (l.map (fun k => [.int .i64 k]))), (1, .fz (l.map (fun k => [.int .i64 k]))), (4, .bool false), (5, .int .i64 i)], [], [], []⟩ : St)) (fun (i : Int) (a : Unit) => a) (fun i (a : Unit) => True) (fun a => (AExit.exit 0, (⟨[(0, .fz (l.map (fun k => [.int .i64 k]))), (1, .fz (l.map (fun k => [.int .i64 k]))), (4, .bool false), (5, .int .i64 (l.length))], [], [], []⟩ : St))) (0) (l.length) ?_ ?_ (0) a0 (by omega) (by omega) hok0
  · intro i a hi hn hok
    refine ⟨⟨_, by simp (maxSteps := 10000000) -implicitDefEqProofs +contextual (disch := omega) only [ub_laws_eqIntS_0, rr_laws_eqIntS, ↓XD, XU, refs, goneIn, Nat.beq, Nat.ble, List.isEmpty, ↓reduceIte, sevalprocAttr, refsL, hn, hok]; rfl, by first | (simp [St.next, trim_all]; done) | (simp [St.next, trim_all]; omega) | (simp [St.next, trim, bare, refsL, refs]; done)⟩, by trivial⟩
  · rintro i a hi rfl hok
    refine ⟨by simp (maxSteps := 10000000) -implicitDefEqProofs +contextual (disch := omega) only [ub_laws_eqIntS_0, rr_laws_eqIntS, ↓XD, XU, refs, goneIn, Nat.beq, Nat.ble, List.isEmpty, ↓reduceIte, sevalprocAttr, refsL, Int.lt_irrefl, hok], by simp⟩
theorem el_eqIntS (l : List Int) (hb : l.length ≤ 1048576) : EP A n_laws_eqIntS [.fz (l.map (fun k => [.int .i64 k])), .fz (l.map (fun k => [.int .i64 k]))] = some (.bool true) := by
  have hl := (lq_Int l hb () trivial).1
  simp (maxSteps := 10000000) -implicitDefEqProofs +contextual (disch := omega) only [e_laws_eqIntS, u_laws_eqIntS, rr_laws_eqIntS, ↓XD, XU, refs, goneIn, Nat.beq, Nat.ble, List.isEmpty, ↓reduceIte, sevalprocAttr, hl]
theorem lq_String (l : List ByteArray) (hb : l.length ≤ 1048576) (a0 : Unit) (hok0 : True) : EV A (.loop (B_laws_eqStringS 0)) (⟨[(0, .fz (l.map (fun s => [.str s]))), (1, .fz (l.map (fun s => [.str s]))), (4, .bool false), (5, .int .i64 (0))], [], [], []⟩ : St) = some (AExit.exit 0, (⟨[(0, .fz (l.map (fun s => [.str s]))), (1, .fz (l.map (fun s => [.str s]))), (4, .bool false), (5, .int .i64 (l.length))], [], [], []⟩ : St)) ∧ True := by
  refine loop_iter (fun i (a : Unit) => (⟨[(0, .fz (l.map (fun s => [.str s]))), (1, .fz (l.map (fun s => [.str s]))), (4, .bool false), (5, .int .i64 i)], [], [], []⟩ : St)) (fun (i : Int) (a : Unit) => a) (fun i (a : Unit) => True) (fun a => (AExit.exit 0, (⟨[(0, .fz (l.map (fun s => [.str s]))), (1, .fz (l.map (fun s => [.str s]))), (4, .bool false), (5, .int .i64 (l.length))], [], [], []⟩ : St))) (0) (l.length) ?_ ?_ (0) a0 (by omega) (by omega) hok0
  · intro i a hi hn hok
    refine ⟨⟨_, by simp (maxSteps := 10000000) -implicitDefEqProofs +contextual (disch := omega) only [ub_laws_eqStringS_0, rr_laws_eqStringS, ↓XD, XU, refs, goneIn, Nat.beq, Nat.ble, List.isEmpty, ↓reduceIte, sevalprocAttr, refsL, hn, hok]; rfl, by first | (simp [St.next, trim_all]; done) | (simp [St.next, trim_all]; omega) | (simp [St.next, trim, bare, refsL, refs]; done)⟩, by trivial⟩
  · rintro i a hi rfl hok
    refine ⟨by simp (maxSteps := 10000000) -implicitDefEqProofs +contextual (disch := omega) only [ub_laws_eqStringS_0, rr_laws_eqStringS, ↓XD, XU, refs, goneIn, Nat.beq, Nat.ble, List.isEmpty, ↓reduceIte, sevalprocAttr, refsL, Int.lt_irrefl, hok], by simp⟩
theorem el_eqStringS (l : List ByteArray) (hb : l.length ≤ 1048576) : EP A n_laws_eqStringS [.fz (l.map (fun s => [.str s])), .fz (l.map (fun s => [.str s]))] = some (.bool true) := by
  have hl := (lq_String l hb () trivial).1
  simp (maxSteps := 10000000) -implicitDefEqProofs +contextual (disch := omega) only [e_laws_eqStringS, u_laws_eqStringS, rr_laws_eqStringS, ↓XD, XU, refs, goneIn, Nat.beq, Nat.ble, List.isEmpty, ↓reduceIte, sevalprocAttr, hl]
theorem lq_Up (l : List Up) (hb : l.length ≤ 1048576) (a0 : Unit) (hok0 : True) : EV A (.loop (B_laws_eqUpS 0)) (⟨[(0, .fz (l.map Up.cells)), (1, .fz (l.map Up.cells)), (4, .bool false), (5, .int .i64 (0))], [], [], []⟩ : St) = some (AExit.exit 0, (⟨[(0, .fz (l.map Up.cells)), (1, .fz (l.map Up.cells)), (4, .bool false), (5, .int .i64 (l.length))], [], [], []⟩ : St)) ∧ True := by
  refine loop_iter (fun i (a : Unit) => (⟨[(0, .fz (l.map Up.cells)), (1, .fz (l.map Up.cells)), (4, .bool false), (5, .int .i64 i)], [], [], []⟩ : St)) (fun (i : Int) (a : Unit) => a) (fun i (a : Unit) => True) (fun a => (AExit.exit 0, (⟨[(0, .fz (l.map Up.cells)), (1, .fz (l.map Up.cells)), (4, .bool false), (5, .int .i64 (l.length))], [], [], []⟩ : St))) (0) (l.length) ?_ ?_ (0) a0 (by omega) (by omega) hok0
  · intro i a hi hn hok
    refine ⟨⟨_, by simp (maxSteps := 10000000) -implicitDefEqProofs +contextual (disch := omega) only [ub_laws_eqUpS_0, rr_laws_eqUpS, ↓XD, XU, refs, goneIn, Nat.beq, Nat.ble, List.isEmpty, ↓reduceIte, sevalprocAttr, Up.cells, el_eqUp, hn, hok]; rfl, by first | (simp [St.next, trim_all]; done) | (simp [St.next, trim_all]; omega) | (simp [St.next, trim, bare, refsL, refs]; done)⟩, by trivial⟩
  · rintro i a hi rfl hok
    refine ⟨by simp (maxSteps := 10000000) -implicitDefEqProofs +contextual (disch := omega) only [ub_laws_eqUpS_0, rr_laws_eqUpS, ↓XD, XU, refs, goneIn, Nat.beq, Nat.ble, List.isEmpty, ↓reduceIte, sevalprocAttr, Up.cells, el_eqUp, Int.lt_irrefl, hok], by simp⟩
theorem el_eqUpS (l : List Up) (hb : l.length ≤ 1048576) : EP A n_laws_eqUpS [.fz (l.map Up.cells), .fz (l.map Up.cells)] = some (.bool true) := by
  have hl := (lq_Up l hb () trivial).1
  simp (maxSteps := 10000000) -implicitDefEqProofs +contextual (disch := omega) only [e_laws_eqUpS, u_laws_eqUpS, rr_laws_eqUpS, ↓XD, XU, refs, goneIn, Nat.beq, Nat.ble, List.isEmpty, ↓reduceIte, sevalprocAttr, hl]
theorem el_eqNode (n : Node) (h1 : n.Refs.length ≤ 1048576) (h2 : n.Kids.length ≤ 1048576) : EP A n_laws_eqNode [.agg n.cells, .agg n.cells] = some (.bool true) := by
  have g1 := el_eqIntS n.Refs h1
  have g2 := el_eqIntS n.Kids h2
  simp (maxSteps := 10000000) -implicitDefEqProofs +contextual (disch := omega) only [e_laws_eqNode, u_laws_eqNode, rr_laws_eqNode, Node.cells, ints, ↓XD, XU, refs, goneIn, Nat.beq, Nat.ble, List.isEmpty, ↓reduceIte, sevalprocAttr, el_sameFloat, g1, g2]
theorem lq_Node (l : List Node) (hb : l.length ≤ 1048576) (hs : Sized l) (a0 : Unit) (hok0 : True) : EV A (.loop (B_laws_eqNodeS 0)) (⟨[(0, .fz (l.map Node.cells)), (1, .fz (l.map Node.cells)), (4, .bool false), (5, .int .i64 (0))], [], [], []⟩ : St) = some (AExit.exit 0, (⟨[(0, .fz (l.map Node.cells)), (1, .fz (l.map Node.cells)), (4, .bool false), (5, .int .i64 (l.length))], [], [], []⟩ : St)) ∧ True := by
  refine loop_iter (fun i (a : Unit) => (⟨[(0, .fz (l.map Node.cells)), (1, .fz (l.map Node.cells)), (4, .bool false), (5, .int .i64 i)], [], [], []⟩ : St)) (fun (i : Int) (a : Unit) => a) (fun i (a : Unit) => True) (fun a => (AExit.exit 0, (⟨[(0, .fz (l.map Node.cells)), (1, .fz (l.map Node.cells)), (4, .bool false), (5, .int .i64 (l.length))], [], [], []⟩ : St))) (0) (l.length) ?_ ?_ (0) a0 (by omega) (by omega) hok0
  · intro i a hi hn hok
    have hg := el_eqNode (nth l i) (hs i).1 (hs i).2; simp only [Node.cells, ints] at hg
    refine ⟨⟨_, by simp (maxSteps := 10000000) -implicitDefEqProofs +contextual (disch := omega) only [ub_laws_eqNodeS_0, rr_laws_eqNodeS, ↓XD, XU, refs, goneIn, Nat.beq, Nat.ble, List.isEmpty, ↓reduceIte, sevalprocAttr, Node.cells, ints, hg, hn, hok]; rfl, by first | (simp [St.next, trim_all]; done) | (simp [St.next, trim_all]; omega) | (simp [St.next, trim, bare, refsL, refs]; done)⟩, by trivial⟩
  · rintro i a hi rfl hok
    refine ⟨by simp (maxSteps := 10000000) -implicitDefEqProofs +contextual (disch := omega) only [ub_laws_eqNodeS_0, rr_laws_eqNodeS, ↓XD, XU, refs, goneIn, Nat.beq, Nat.ble, List.isEmpty, ↓reduceIte, sevalprocAttr, Node.cells, ints, Int.lt_irrefl, hok], by simp⟩
theorem el_eqNodeS (l : List Node) (hb : l.length ≤ 1048576) (hs : Sized l) : EP A n_laws_eqNodeS [nodes l, nodes l] = some (.bool true) := by
  have hl := (lq_Node l hb hs () trivial).1
  simp (maxSteps := 10000000) -implicitDefEqProofs +contextual (disch := omega) only [e_laws_eqNodeS, u_laws_eqNodeS, rr_laws_eqNodeS, nodes, ↓XD, XU, refs, goneIn, Nat.beq, Nat.ble, List.isEmpty, ↓reduceIte, sevalprocAttr, hl]
theorem el_eqFn (f : Fn) (h1 : f.Vars.length ≤ 1048576) (h2 : f.Ups.length ≤ 1048576) (h3 : f.Nodes.length ≤ 1048576) (hs : Sized f.Nodes) : EP A n_laws_eqFn [.agg f.cells, .agg f.cells] = some (.bool true) := by
  have g1 := el_eqStringS f.Vars h1
  have g2 := el_eqUpS f.Ups h2
  have g3 := el_eqNodeS f.Nodes h3 hs
  simp only [nodes] at g3
  simp (maxSteps := 10000000) -implicitDefEqProofs +contextual (disch := omega) only [e_laws_eqFn, u_laws_eqFn, rr_laws_eqFn, Fn.cells, strs, ups, nodes, ↓XD, XU, refs, goneIn, Nat.beq, Nat.ble, List.isEmpty, ↓reduceIte, sevalprocAttr, g1, g2, g3]
theorem lq_Fn (l : List Fn) (hb : l.length ≤ 1048576) (hs : SizedF l) (a0 : Unit) (hok0 : True) : EV A (.loop (B_laws_eqFnS 0)) (⟨[(0, .fz (l.map Fn.cells)), (1, .fz (l.map Fn.cells)), (4, .bool false), (5, .int .i64 (0))], [], [], []⟩ : St) = some (AExit.exit 0, (⟨[(0, .fz (l.map Fn.cells)), (1, .fz (l.map Fn.cells)), (4, .bool false), (5, .int .i64 (l.length))], [], [], []⟩ : St)) ∧ True := by
  refine loop_iter (fun i (a : Unit) => (⟨[(0, .fz (l.map Fn.cells)), (1, .fz (l.map Fn.cells)), (4, .bool false), (5, .int .i64 i)], [], [], []⟩ : St)) (fun (i : Int) (a : Unit) => a) (fun i (a : Unit) => True) (fun a => (AExit.exit 0, (⟨[(0, .fz (l.map Fn.cells)), (1, .fz (l.map Fn.cells)), (4, .bool false), (5, .int .i64 (l.length))], [], [], []⟩ : St))) (0) (l.length) ?_ ?_ (0) a0 (by omega) (by omega) hok0
  · intro i a hi hn hok
    have hg := el_eqFn (nth l i) (hs i).1 (hs i).2.1 (hs i).2.2.1 (hs i).2.2.2; simp only [Fn.cells, strs, ups, nodes] at hg
    refine ⟨⟨_, by simp (maxSteps := 10000000) -implicitDefEqProofs +contextual (disch := omega) only [ub_laws_eqFnS_0, rr_laws_eqFnS, ↓XD, XU, refs, goneIn, Nat.beq, Nat.ble, List.isEmpty, ↓reduceIte, sevalprocAttr, Fn.cells, strs, ups, nodes, hg, hn, hok]; rfl, by first | (simp [St.next, trim_all]; done) | (simp [St.next, trim_all]; omega) | (simp [St.next, trim, bare, refsL, refs]; done)⟩, by trivial⟩
  · rintro i a hi rfl hok
    refine ⟨by simp (maxSteps := 10000000) -implicitDefEqProofs +contextual (disch := omega) only [ub_laws_eqFnS_0, rr_laws_eqFnS, ↓XD, XU, refs, goneIn, Nat.beq, Nat.ble, List.isEmpty, ↓reduceIte, sevalprocAttr, Fn.cells, strs, ups, nodes, Int.lt_irrefl, hok], by simp⟩
theorem el_eqFnS (l : List Fn) (hb : l.length ≤ 1048576) (hs : SizedF l) : EP A n_laws_eqFnS [fns l, fns l] = some (.bool true) := by
  have hl := (lq_Fn l hb hs () trivial).1
  simp (maxSteps := 10000000) -implicitDefEqProofs +contextual (disch := omega) only [e_laws_eqFnS, u_laws_eqFnS, rr_laws_eqFnS, fns, ↓XD, XU, refs, goneIn, Nat.beq, Nat.ble, List.isEmpty, ↓reduceIte, sevalprocAttr, hl]
theorem el_eqUnit (l : List Fn) (hb : l.length ≤ 1048576) (hs : SizedF l) : EP A n_laws_eqUnit [unit l, unit l] = some (.bool true) := by
  have g := el_eqFnS l hb hs
  simp only [fns] at g
  simp (maxSteps := 10000000) -implicitDefEqProofs +contextual (disch := omega) only [e_laws_eqUnit, u_laws_eqUnit, rr_laws_eqUnit, unit, fns, ↓XD, XU, refs, goneIn, Nat.beq, Nat.ble, List.isEmpty, ↓reduceIte, sevalprocAttr, g]
end Go.Proofs.Try.Av
end
section
attribute [local congr] ite_congr
set_option linter.unusedSimpArgs false
set_option linter.unusedVariables false
set_option maxRecDepth 10000
set_option maxHeartbeats 400000
namespace Go.Proofs.Try.Av
open Go Go.Av Classical
theorem sumTo_congr {c d : Int → Int} : ∀ (m : Nat) (i : Int), (∀ k, i ≤ k → c k = d k) → sumTo c m i = sumTo d m i
  | 0, _, _ => rfl
  | m + 1, i, h => by rw [sumTo, sumTo, h i (Int.le_refl _), sumTo_congr m (i + 1) (fun k hk => h k (by omega))]
theorem sumTo_shift (c : Int → Int) : ∀ (m : Nat) (i : Int), sumTo c m (i + 1) = sumTo (fun k => c (k + 1)) m i
  | 0, _ => rfl
  | m + 1, i => by rw [sumTo, sumTo, sumTo_shift c m (i + 1)]
theorem nth_cons {α : Type} [Inhabited α] (x : α) (l : List α) {k : Int} (h : 0 ≤ k) : nth (x :: l) (k + 1) = nth l k := by
  simp [nth, List.getD, show (k + 1).toNat = k.toNat + 1 by omega]
theorem sum_le {α : Type} [Inhabited α] (g : α → Nat) (c : α → Int) (h : ∀ x, (g x : Int) ≤ c x) : ∀ l : List α, (((l.map g).sum : Nat) : Int) ≤ sumTo (fun k => c (nth l k)) l.length 0
  | [] => by simp [sumTo]
  | x :: l => by
    have ih := sum_le g c h l
    have hx := h x
    rw [List.map_cons, List.sum_cons, List.length_cons, sumTo, sumTo_shift]
    rw [sumTo_congr (d := fun k => c (nth l k)) l.length 0 (fun k hk => by rw [nth_cons x l hk])]
    have : nth (x :: l) 0 = x := rfl
    rw [this]
    omega
theorem le_sum {c : Int → Int} (hc : ∀ i, 0 ≤ c i) : ∀ (m : Nat) (i j : Int), i ≤ j → j < i + m → c j ≤ sumTo c m i
  | 0, i, j, h1, h2 => by omega
  | m + 1, i, j, h1, h2 => by
    have := hc i
    have h3 := sumTo_nonneg hc m (i + 1)
    rw [sumTo]
    by_cases h : i = j
    · subst h; omega
    · have := le_sum hc m (i + 1) j (by omega) (by omega); omega
theorem nth_map {α β : Type} [Inhabited α] [Inhabited β] (f : α → β) (l : List α) {i : Int} (h0 : 0 ≤ i) (h1 : i < l.length) : nth (l.map f) i = f (nth l i) := by
  rw [nth_get h0 h1, nth_get h0 (by simpa using h1)]; simp
theorem nth_def {α : Type} [Inhabited α] {l : List α} {i : Int} (h : ¬(0 ≤ i ∧ i < l.length)) : nth l i = default ∨ (¬0 ≤ i ∧ nth l i = nth l 0) := by
  by_cases h0 : 0 ≤ i
  · left; exact nth_out h0 (by omega)
  · right; exact ⟨h0, by simp [nth, show i.toNat = 0 by omega]⟩
theorem all_nth {α : Type} [Inhabited α] {l : List α} {p : α → Prop} (hd : p default) (h : ∀ i : Int, 0 ≤ i → i < l.length → p (nth l i)) (i : Int) : p (nth l i) := by
  by_cases hi : 0 ≤ i ∧ i < l.length
  · exact h i hi.1 hi.2
  · rcases nth_def hi with e | ⟨h0, e⟩
    · rw [e]; exact hd
    · rw [e]
      by_cases hl : (0 : Int) < l.length
      · exact h 0 (by omega) hl
      · rw [nth_out (by omega) (by omega)]; exact hd
theorem szNode_s {n : RNode} (h : szNode n ≤ 1048576) : NodeS n := ⟨by simp only [szNode] at h; omega, by simp only [szNode] at h; omega⟩
theorem szNodes_s {l : List RNode} (h : szNodes l ≤ 1048576) (i : Int) : NodeS (nth l i) := by
  refine all_nth (p := NodeS) ⟨by decide, by decide⟩ (fun i h0 h1 => szNode_s ?_) i
  have := le_sum (c := fun k => szNode (nth l k)) (fun k => szNode_nonneg _) l.length 0 i h0 (by omega)
  simp only [szNodes] at h
  try dsimp only at this
  omega
theorem szFn_s {f : RFn} (h : szFn f ≤ 1048576) : FnS f := by
  have h1 := szStrs_nonneg (ol f.Vars)
  have h2 := szNodes_nonneg (ol f.Nodes)
  simp only [szFn] at h
  exact ⟨by omega, by omega, by omega, szNodes_s (by omega)⟩
theorem szFns_s {l : List RFn} (h : szFns l ≤ 1048576) (i : Int) : FnS (nth l i) := by
  refine all_nth (p := FnS) ⟨by decide, by decide, by decide, fun i => by rw [show ol (default : RFn).Nodes = [] from rfl]; exact ⟨by simp [nth, List.getD]; decide, by simp [nth, List.getD]; decide⟩⟩ (fun i h0 h1 => szFn_s ?_) i
  have := le_sum (c := fun k => szFn (nth l k)) (fun k => szFn_nonneg _) l.length 0 i h0 (by omega)
  simp only [szFns] at h
  try dsimp only at this
  omega
theorem szFns_len {l : List RFn} (h : szFns l ≤ 1048576) : l.length ≤ 1048576 ∧ total (l.map RFn.to) ≤ 1048576 := by
  have h1 := sumTo_nonneg (c := fun k => szFn (nth l k)) (fun k => szFn_nonneg _) l.length 0
  have h2 := sum_le (fun f : RFn => (ol f.Nodes).length) szFn (fun f => by
    have := szStrs_nonneg (ol f.Vars); have := szNodes_nonneg (ol f.Nodes)
    simp only [szFn]; omega) l
  simp only [szFns] at h
  refine ⟨by omega, ?_⟩
  rw [total, List.map_map]
  have e : (l.map ((fun f : Fn => f.Nodes.length) ∘ RFn.to)) = l.map fun f : RFn => (ol f.Nodes).length := List.map_congr_left fun f _ => by simp [RFn.to]
  rw [e]
  omega
theorem sizedF_to {l : List RFn} (h : szFns l ≤ 1048576) : SizedF (l.map RFn.to) := by
  intro j
  refine all_nth (l := l.map RFn.to) (p := fun f => f.Vars.length ≤ 1048576 ∧ f.Ups.length ≤ 1048576 ∧ f.Nodes.length ≤ 1048576 ∧ Sized f.Nodes) ⟨by decide, by decide, by decide, fun i => by rw [show (default : Fn).Nodes = [] from rfl]; exact ⟨by simp [nth, List.getD]; decide, by simp [nth, List.getD]; decide⟩⟩ (fun i h0 h1 => ?_) j
  rw [List.length_map] at h1
  rw [nth_map RFn.to l h0 h1]
  have hs := szFns_s h i
  refine ⟨hs.v, hs.u, by simpa [RFn.to] using hs.n, fun k => ?_⟩
  refine all_nth (l := (nth l i).to.Nodes) (p := fun n => n.Refs.length ≤ 1048576 ∧ n.Kids.length ≤ 1048576) ⟨by decide, by decide⟩ (fun k k0 k1 => ?_) k
  have k1' : k < (ol (nth l i).Nodes).length := by simpa [RFn.to] using k1
  show (nth ((ol (nth l i).Nodes).map RNode.to) k).Refs.length ≤ 1048576 ∧ (nth ((ol (nth l i).Nodes).map RNode.to) k).Kids.length ≤ 1048576
  rw [nth_map RNode.to _ k0 k1']
  exact ⟨(hs.ns k).r, (hs.ns k).k⟩
theorem el_law (himpl : ∀ fs : List Fn, fs.length ≤ 1048576 → total fs ≤ 1048576 → SizedF fs → EP A n_impl_CheckUnit [unit fs] = some (fl3 (specFault fs))) (o : Option (List RFn)) (hb : (ol o).length ≤ 9223372036854775807) (hs : ∀ i : Int, FnB (nth (ol o) i)) : EP A n_laws_FnExactCheckUnit [.agg (runit o)] = some (.bool true) := by
  have g1 := el_szUnit o hb hs
  by_cases c : (1048576 : Int) < szFns (ol o)
  · rw [rest, if_pos c] at g1
    simp (maxSteps := 10000000) -implicitDefEqProofs +contextual (disch := omega) only [e_laws_FnExactCheckUnit, u_laws_FnExactCheckUnit, rr_laws_FnExactCheckUnit, runit, lenV_osl, frz_osl, refs_osl, isLeaf_osl, cellsOf_osl, ↓XD, XU, refs, goneIn, Nat.beq, Nat.ble, List.isEmpty, ↓reduceIte, sevalprocAttr, g1]
  · rw [rest, if_neg c] at g1
    have hz : szFns (ol o) ≤ 1048576 := by omega
    have hl := szFns_len hz
    have hS := sizedF_to hz
    have g2 := el_toUnit o hl.1 (szFns_s hz)
    rw [norm_unit] at g2
    have hl2 : ((ol o).map RFn.to).length ≤ 1048576 := by simpa using hl.1
    have g3 := ep_CheckUnit _ hl2 hl.2 hS
    have g4 := himpl _ hl2 hl.2 hS
    have g5 := el_eqFault (specFault ((ol o).map RFn.to)).1 (specFault ((ol o).map RFn.to)).2.1 (specFault ((ol o).map RFn.to)).2.2
    have g6 := el_eqUnit _ hl2 hS
    have e : ¬1048576 - szFns (ol o) < 0 := by omega
    simp only [unit, fns] at g2 g3 g4 g6
    simp (maxSteps := 10000000) -implicitDefEqProofs +contextual (disch := omega) only [e_laws_FnExactCheckUnit, u_laws_FnExactCheckUnit, rr_laws_FnExactCheckUnit, runit, lenV_osl, frz_osl, refs_osl, isLeaf_osl, cellsOf_osl, ↓XD, XU, refs, goneIn, Nat.beq, Nat.ble, List.isEmpty, ↓reduceIte, sevalprocAttr, g1, g2, g3, g4, g5, g6, e]
end Go.Proofs.Try.Av
end
section
set_option linter.unusedSimpArgs false
set_option linter.unusedVariables false
namespace Go.Proofs.Try.Av
open Go Go.Av Classical
theorem okRow_cons {s : Sh} {ss : List Sh} {r : List PV} (h : OkRow (s :: ss) r) : ∃ p ps, r = p :: ps ∧ Ok s p ∧ OkRow ss ps := by
  obtain ⟨h1, h2⟩ := h
  cases r with
  | nil => simp at h1
  | cons p ps => exact ⟨p, ps, rfl, h2 0 s p rfl rfl, by simpa using h1, fun i s' p' e1 e2 => h2 (i + 1) s' p' e1 e2⟩
theorem okRow_nil {r : List PV} (h : OkRow [] r) : r = [] := List.length_eq_zero_iff.1 h.1
theorem dec_slice {α : Type} (f : α → List PV) (good : α → Prop) (es : List Sh) (h : ∀ r, OkRow es r → ∃ x, r = f x ∧ good x) {p : PV} (hp : Ok (.slice es) p) : ∃ o : Option (List α), p = osl f o ∧ (ol o).length ≤ 9223372036854775807 ∧ ∀ x ∈ ol o, good x := by
  cases hp with
  | nils => exact ⟨none, rfl, by simp, by simp⟩
  | fz _ rows hl hs hk =>
    have hm : (maxLen : Nat) = 9223372036854775807 := by decide
    have : ∀ rows : List (List PV), (∀ r ∈ rows, OkRow es r) → ∃ l : List α, rows = l.map f ∧ ∀ x ∈ l, good x := by
      intro rows
      induction rows with
      | nil => exact fun _ => ⟨[], rfl, by simp⟩
      | cons r rows ih =>
        intro hr
        obtain ⟨l, e, hg⟩ := ih fun r hr' => hr r (List.mem_cons_of_mem _ hr')
        obtain ⟨x, e2, hx⟩ := h r (hr r (List.mem_cons_self ..))
        exact ⟨x :: l, by rw [List.map_cons, e, e2], by simpa using ⟨hx, hg⟩⟩
    obtain ⟨l, e, hg⟩ := this rows fun r hr => ⟨hs r hr, hk r hr⟩
    refine ⟨some l, by rw [e]; rfl, ?_, hg⟩
    have : rows.length = l.length := by rw [e, List.length_map]
    show l.length ≤ _
    omega
theorem dec_int {k : IntKind} {p : PV} (h : Ok (.int k) p) : ∃ n, p = .int k n := by cases h; exact ⟨_, rfl⟩
theorem dec_bool {p : PV} (h : Ok .bool p) : ∃ n, p = .bool n := by cases h; exact ⟨_, rfl⟩
theorem dec_flt {k : FloatKind} {p : PV} (h : Ok (.flt k) p) : ∃ n, p = .flt k n := by cases h; exact ⟨_, rfl⟩
theorem dec_str {p : PV} (h : Ok .str p) : ∃ s : ByteArray, p = .str s ∧ s.size ≤ 9223372036854775807 := by
  cases h with
  | str s h => exact ⟨s, rfl, h⟩
theorem dec_ints {p : PV} (h : Ok (.slice [.int .i64]) p) : ∃ o : Option (List Int), p = osl iv o ∧ (ol o).length ≤ 9223372036854775807 := by
  obtain ⟨o, e, hl, _⟩ := dec_slice iv (fun _ => True) _ (fun r hr => by
    obtain ⟨a, _, rfl, ha, k1⟩ := okRow_cons hr
    obtain ⟨n, rfl⟩ := dec_int ha
    rw [okRow_nil k1]; exact ⟨n, rfl, trivial⟩) h
  exact ⟨o, e, hl⟩
theorem dec_strs {p : PV} (h : Ok (.slice [.str]) p) : ∃ o : Option (List ByteArray), p = osl sv o ∧ (ol o).length ≤ 9223372036854775807 ∧ ∀ s ∈ ol o, s.size ≤ 9223372036854775807 :=
  dec_slice sv (fun s => s.size ≤ 9223372036854775807) _ (fun r hr => by
    obtain ⟨a, _, rfl, ha, k1⟩ := okRow_cons hr
    obtain ⟨n, rfl, hn⟩ := dec_str ha
    rw [okRow_nil k1]; exact ⟨n, rfl, hn⟩) h
theorem dec_ups {p : PV} (h : Ok (.slice [.bool, .int .i64]) p) : ∃ o : Option (List Up), p = osl Up.cells o ∧ (ol o).length ≤ 9223372036854775807 := by
  obtain ⟨o, e, hl, _⟩ := dec_slice Up.cells (fun _ => True) _ (fun r hr => by
    obtain ⟨a, _, rfl, ha, k1⟩ := okRow_cons hr
    obtain ⟨b, _, rfl, hb, k2⟩ := okRow_cons k1
    obtain ⟨x, rfl⟩ := dec_bool ha
    obtain ⟨y, rfl⟩ := dec_int hb
    rw [okRow_nil k2]; exact ⟨⟨x, y⟩, rfl, trivial⟩) h
  exact ⟨o, e, hl⟩
def shNode : List Sh := [.int .i64, .int .i64, .int .i64, .int .i64, .flt .f64, .str, .slice [.int .i64], .slice [.int .i64]]
def shFn : List Sh := [.str, .int .i64, .int .i64, .bool, .slice [.str], .slice [.bool, .int .i64], .slice shNode]
def shUnit : List Sh := [.slice shFn]
theorem dec_node {r : List PV} (hr : OkRow shNode r) : ∃ n : RNode, r = n.cells ∧ NodeB n := by
  obtain ⟨a1, _, rfl, h1, k1⟩ := okRow_cons hr
  obtain ⟨a2, _, rfl, h2, k2⟩ := okRow_cons k1
  obtain ⟨a3, _, rfl, h3, k3⟩ := okRow_cons k2
  obtain ⟨a4, _, rfl, h4, k4⟩ := okRow_cons k3
  obtain ⟨a5, _, rfl, h5, k5⟩ := okRow_cons k4
  obtain ⟨a6, _, rfl, h6, k6⟩ := okRow_cons k5
  obtain ⟨a7, _, rfl, h7, k7⟩ := okRow_cons k6
  obtain ⟨a8, _, rfl, h8, k8⟩ := okRow_cons k7
  obtain ⟨x1, rfl⟩ := dec_int h1
  obtain ⟨x2, rfl⟩ := dec_int h2
  obtain ⟨x3, rfl⟩ := dec_int h3
  obtain ⟨x4, rfl⟩ := dec_int h4
  obtain ⟨x5, rfl⟩ := dec_flt h5
  obtain ⟨x6, rfl, b6⟩ := dec_str h6
  obtain ⟨x7, rfl, b7⟩ := dec_ints h7
  obtain ⟨x8, rfl, b8⟩ := dec_ints h8
  rw [okRow_nil k8]
  exact ⟨⟨x1, x2, x3, x4, x5, x6, x7, x8⟩, rfl, ⟨b6, b7, b8⟩⟩
theorem nodeB_def : NodeB default := ⟨by decide, by decide, by decide⟩
theorem dec_fn {r : List PV} (hr : OkRow shFn r) : ∃ f : RFn, r = f.cells ∧ FnB f := by
  obtain ⟨a1, _, rfl, h1, k1⟩ := okRow_cons hr
  obtain ⟨a2, _, rfl, h2, k2⟩ := okRow_cons k1
  obtain ⟨a3, _, rfl, h3, k3⟩ := okRow_cons k2
  obtain ⟨a4, _, rfl, h4, k4⟩ := okRow_cons k3
  obtain ⟨a5, _, rfl, h5, k5⟩ := okRow_cons k4
  obtain ⟨a6, _, rfl, h6, k6⟩ := okRow_cons k5
  obtain ⟨a7, _, rfl, h7, k7⟩ := okRow_cons k6
  obtain ⟨x1, rfl, b1⟩ := dec_str h1
  obtain ⟨x2, rfl⟩ := dec_int h2
  obtain ⟨x3, rfl⟩ := dec_int h3
  obtain ⟨x4, rfl⟩ := dec_bool h4
  obtain ⟨x5, rfl, b5, c5⟩ := dec_strs h5
  obtain ⟨x6, rfl, b6⟩ := dec_ups h6
  obtain ⟨x7, rfl, b7, c7⟩ := dec_slice RNode.cells NodeB shNode (fun r hr => dec_node hr) h7
  rw [okRow_nil k7]
  exact ⟨⟨x1, x2, x3, x4, x5, x6, x7⟩, rfl, ⟨b1, b5, all_nth (p := fun s : ByteArray => s.size ≤ 9223372036854775807) (by decide) (fun i h0 h1 => c5 _ (nth_mem h0 h1)), b6, b7, all_nth nodeB_def (fun i h0 h1 => c7 _ (nth_mem h0 h1))⟩⟩
theorem fnB_def : FnB default := ⟨by decide, by decide, all_nth (p := fun s : ByteArray => s.size ≤ 9223372036854775807) (by decide) (fun i h0 h1 => by rw [show ol (default : RFn).Vars = [] from rfl] at h1; simp at h1; omega), by decide, by decide, all_nth nodeB_def (fun i h0 h1 => by rw [show ol (default : RFn).Nodes = [] from rfl] at h1; simp at h1; omega)⟩
theorem dec_unit {r : List PV} (hr : OkRow shUnit r) : ∃ o : Option (List RFn), r = runit o ∧ (ol o).length ≤ 9223372036854775807 ∧ ∀ i : Int, FnB (nth (ol o) i) := by
  obtain ⟨a1, _, rfl, h1, k1⟩ := okRow_cons hr
  obtain ⟨x, rfl, b, c⟩ := dec_slice RFn.cells FnB shFn (fun r hr => dec_fn hr) h1
  rw [okRow_nil k1]
  exact ⟨x, rfl, b, all_nth fnB_def (fun i h0 h1 => c _ (nth_mem h0 h1))⟩
end Go.Proofs.Try.Av
end
section
attribute [local congr] ite_congr
set_option linter.unusedSimpArgs false
set_option linter.unusedVariables false
set_option maxRecDepth 10000
set_option maxHeartbeats 400000
namespace Go.Proofs.Try.Av
open Go Go.Av Classical
abbrev scell (f : Fn) (iid : Nat) (see : PV) : List PV := [.str f.Name, .int .i64 f.Line, .int .i64 f.Params, .bool f.Rest, strs f.Vars, ups f.Ups, nodes f.Nodes, .sl iid 0 f.Vars.length f.Vars.length, see]
theorem set_same {H : Heap} {i : Nat} {b : Blk} (h : H[i]? = some b) : H.set i b = H := by
  have hi : i < H.length := by rcases Nat.lt_or_ge i H.length with h1 | h1; exact h1; rw [List.getElem?_eq_none h1] at h; cases h
  refine List.ext_getElem? fun j => ?_
  by_cases e : i = j
  · subst e; rw [List.getElem?_set_self hi, h]
  · rw [List.getElem?_set_ne e]
theorem some_lt {H : Heap} {i : Nat} {b : Blk} (h : H[i]? = some b) : i < H.length := by
  rcases Nat.lt_or_ge i H.length with h1 | h1
  · exact h1
  · rw [List.getElem?_eq_none h1] at h; cases h
abbrev addOne (L : Nat) (refs : List Int) (i : Int) (a : List Bool) : List Bool := if 0 ≤ nth refs i ∧ nth refs i < L then a.set (nth refs i).toNat true else a
def addRefs (L : Nat) (refs : List Int) (a : List Bool) : List Bool := iter (addOne L refs) ((refs.length : Int) - 0).toNat 0 a
theorem addRefs_length (L : Nat) (refs : List Int) (a : List Bool) : (addRefs L refs a).length = a.length := by
  rw [addRefs]
  have : ∀ (m : Nat) (i : Int) (a : List Bool), (iter (addOne L refs) m i a).length = a.length := by
    intro m
    induction m with
    | zero => intro i a; rfl
    | succ m ih => intro i a; rw [iter, ih]; simp only [addOne]; split <;> simp
  exact this _ _ _
theorem lw_set (f : Fn) (sid iid n0 m1 x0 : Nat) (see : PV) (nd : Node) (H : Heap) (hr : nd.Refs.length ≤ 1048576) (hb : f.Vars.length ≤ 1048576) (q1 : ∀ b, (H.set iid b)[sid]? = some (.cells 9 [scell f iid see])) (q2 : ∀ b, (H.set iid b)[iid]? = some b) (q3 : ∀ b, (H.set iid b)[n0]? = some (.cells 1 [[.ptr sid 0 0 1]])) (q4 : ∀ b, (H.set iid b)[x0]? = some (.cells 8 [nd.cells])) (q5 : ∀ b b', (H.set iid b).set iid b' = H.set iid b') (a0 : List Bool) (hok0 : a0.length = f.Vars.length) : EV A (.loop (B_impl_scoper_walk_S1 0)) (⟨[(0, .bool true), (1, .ptr n0 0 0 1), (2, .ptr m1 0 0 1), (3, .ptr x0 0 0 1), (16, ints nd.Refs), (17, .int .i64 nd.Refs.length), (18, .int .i64 (0))], [], H.set iid (.cells 1 (bl a0)), []⟩ : St) = some (AExit.exit 0, (⟨[(0, .bool true), (1, .ptr n0 0 0 1), (2, .ptr m1 0 0 1), (3, .ptr x0 0 0 1), (16, ints nd.Refs), (17, .int .i64 nd.Refs.length), (18, .int .i64 (nd.Refs.length))], [], H.set iid (.cells 1 (bl (iter (fun (i : Int) (a : List Bool) => addOne f.Vars.length nd.Refs i a) ((nd.Refs.length : Int) - 0).toNat (0) a0))), []⟩ : St)) ∧ (iter (fun (i : Int) (a : List Bool) => addOne f.Vars.length nd.Refs i a) ((nd.Refs.length : Int) - 0).toNat (0) a0).length = f.Vars.length := by
  refine loop_iter (fun i (a : List Bool) => (⟨[(0, .bool true), (1, .ptr n0 0 0 1), (2, .ptr m1 0 0 1), (3, .ptr x0 0 0 1), (16, ints nd.Refs), (17, .int .i64 nd.Refs.length), (18, .int .i64 i)], [], H.set iid (.cells 1 (bl a)), []⟩ : St)) (fun (i : Int) (a : List Bool) => addOne f.Vars.length nd.Refs i a) (fun i (a : List Bool) => a.length = f.Vars.length) (fun a => (AExit.exit 0, (⟨[(0, .bool true), (1, .ptr n0 0 0 1), (2, .ptr m1 0 0 1), (3, .ptr x0 0 0 1), (16, ints nd.Refs), (17, .int .i64 nd.Refs.length), (18, .int .i64 (nd.Refs.length))], [], H.set iid (.cells 1 (bl a)), []⟩ : St))) (0) (nd.Refs.length) ?_ ?_ (0) a0 (by omega) (by omega) hok0
  · intro i a hi hn hok
    simp only [scell, strs, ups, nodes] at q1; simp only [Node.cells, ints] at q4
    by_cases hL : 0 ≤ nth nd.Refs i ∧ nth nd.Refs i < f.Vars.length
    · refine ⟨⟨_, by simp (maxSteps := 10000000) -implicitDefEqProofs +contextual (disch := omega) only [ub_impl_scoper_walk_S1_0, rr_impl_scoper_walk_S1, ↓XD, XU, refs, goneIn, Nat.beq, Nat.ble, List.isEmpty, ↓reduceIte, sevalprocAttr, bl, ints, addOne, q1, q2, q3, q4, q5, hL, hn, hok]; rfl, by first | (simp [St.next, trim_all, addOne, bl, hL]; done) | (simp [St.next, trim_all, addOne, bl, hL]; omega) | (simp [St.next, trim, bare, refsL, refs, addOne, bl, hL]; done)⟩, by simp only [addOne]; split <;> simpa using hok⟩
    · refine ⟨⟨_, by simp (maxSteps := 10000000) -implicitDefEqProofs +contextual (disch := omega) only [ub_impl_scoper_walk_S1_0, rr_impl_scoper_walk_S1, ↓XD, XU, refs, goneIn, Nat.beq, Nat.ble, List.isEmpty, ↓reduceIte, sevalprocAttr, bl, ints, addOne, q1, q2, q3, q4, q5, hL, hn, hok]; rfl, by first | (simp [St.next, trim_all, addOne, bl, hL]; done) | (simp [St.next, trim_all, addOne, bl, hL]; omega) | (simp [St.next, trim, bare, refsL, refs, addOne, bl, hL]; done)⟩, by simp only [addOne]; split <;> simpa using hok⟩
  · rintro i a hi rfl hok
    refine ⟨by simp (maxSteps := 10000000) -implicitDefEqProofs +contextual (disch := omega) only [ub_impl_scoper_walk_S1_0, rr_impl_scoper_walk_S1, ↓XD, XU, refs, goneIn, Nat.beq, Nat.ble, List.isEmpty, ↓reduceIte, sevalprocAttr, bl, ints, addOne, q1, q2, q3, q4, q5, Int.lt_irrefl, hok], by simp⟩
def copK (H : Heap) (sz : Nat) (x y : PV) : Option (PV × Heap × Edges) := match x, rowsOf H y with
    | .sl id off len tot, some new => match H[id]? with
      | some (.cells s rows) => match tot == rows.length && decide (off + len ≤ tot) && s == sz && sizeIs H sz y with
        | true => some (.int .i64 (min new.length len : Nat), H.set id (.cells s (rows.take off ++ new.take len ++ rows.drop (off + min new.length len))), ((new.take len).map (edgesTo id)).flatten)
        | false => none
      | _ => none
    | _, _ => none
theorem e_copyS {P : AProg} (sz : Nat) (x y : Opd) (st : St) : evOp P.glob (CL P) st (.copyS sz x y) = copK st.H sz (x.get P.glob st) (y.get P.glob st) := by
  rfl
theorem edges_bools (id : Nat) (l : List Bool) : ((bl l).map (edgesTo id)).flatten = [] := by
  induction l with
  | nil => rfl
  | cons b l ih => simp only [bl, List.map_cons, List.flatten_cons] at ih ⊢; rw [ih]; rfl
theorem copK_bools {H : Heap} {id id2 L : Nat} {a b : List Bool} (h1 : H[id]? = some (.cells 1 (bl a))) (h2 : H[id2]? = some (.cells 1 (bl b))) (l1 : a.length = L) (l2 : b.length = L) : copK H 1 (.sl id 0 L L) (.sl id2 0 L L) = some (.int .i64 L, H.set id (.cells 1 (bl b)), []) := by
  have e1 : (bl a).length = L := by simpa using l1
  have e2 : (bl b).length = L := by simpa using l2
  have t2 : (bl b).take L = bl b := List.take_of_length_le (by omega)
  simp only [copK, rowsOf, h2, h1, sizeIs, e1, e2, beq_self_eq_true, Nat.zero_add, Nat.le_refl, decide_true, Bool.and_self, Bool.true_and, List.drop_zero, t2, Nat.min_self, List.take_zero, List.nil_append, edges_bools]
  rw [List.drop_eq_nil_of_le (by omega), List.append_nil]
section
variable (f : Fn) (sid iid n0 m1 x0 : Nat) (see : PV) (nd : Node) (H : Heap) (inn : List Bool) (hr : nd.Refs.length ≤ 1048576) (hb : f.Vars.length ≤ 1048576) (hl : inn.length = f.Vars.length)
  (hs : H[sid]? = some (.cells 9 [scell f iid see])) (hi : H[iid]? = some (.cells 1 (bl inn))) (hn : H[n0]? = some (.cells 1 [[.ptr sid 0 0 1]])) (hx : H[x0]? = some (.cells 8 [nd.cells]))
  (d1 : sid ≠ iid) (d2 : n0 ≠ iid) (d3 : x0 ≠ iid)
include hs hi hn d1 d2 hb hl
theorem es_set_true (hr : nd.Refs.length ≤ 1048576) (hx : H[x0]? = some (.cells 8 [nd.cells])) (d3 : x0 ≠ iid) : ES A n_impl_scoper_walk_S1 [.bool true, .ptr n0 0 0 1, .ptr m1 0 0 1, .ptr x0 0 0 1] H = some (.tup [], H.set iid (.cells 1 (bl (addRefs f.Vars.length nd.Refs inn))), []) := by
  have hlw := (lw_set f sid iid n0 m1 x0 see nd H hr hb (fun b => by rw [List.getElem?_set_ne (Ne.symm d1), hs]) (fun b => List.getElem?_set_self (some_lt hi)) (fun b => by rw [List.getElem?_set_ne (Ne.symm d2), hn]) (fun b => by rw [List.getElem?_set_ne (Ne.symm d3), hx]) (fun b b' => List.set_set ..) inn hl).1
  rw [set_same hi] at hlw
  have hA : addRefs f.Vars.length nd.Refs inn = iter (fun (i : Int) (a : List Bool) => addOne f.Vars.length nd.Refs i a) ((nd.Refs.length : Int) - 0).toNat 0 inn := rfl
  rw [← hA] at hlw
  simp only [Node.cells, ints] at hx
  simp (maxSteps := 10000000) -implicitDefEqProofs +contextual (disch := omega) only [s_impl_scoper_walk_S1, u_impl_scoper_walk_S1, rr_impl_scoper_walk_S1, ints, ↓XD, XU, refs, goneIn, Nat.beq, Nat.ble, List.isEmpty, ↓reduceIte, sevalprocAttr, hx, hlw]
  simp [trim_all]
theorem es_set_false (oid : Nat) (old : List Bool) (hm : H[m1]? = some (.cells 1 [[.sl oid 0 f.Vars.length f.Vars.length]])) (ho : H[oid]? = some (.cells 1 (bl old))) (lo : old.length = f.Vars.length) : ES A n_impl_scoper_walk_S1 [.bool false, .ptr n0 0 0 1, .ptr m1 0 0 1, .ptr x0 0 0 1] H = some (.tup [], H.set iid (.cells 1 (bl old)), []) := by
  have hc := copK_bools hi ho hl lo
  simp only [scell, strs, ups, nodes] at hs
  simp (maxSteps := 10000000) -implicitDefEqProofs +contextual (disch := omega) only [s_impl_scoper_walk_S1, u_impl_scoper_walk_S1, rr_impl_scoper_walk_S1, ↓e_copyS, ↓XD, XU, refs, goneIn, Nat.beq, Nat.ble, List.isEmpty, ↓reduceIte, sevalprocAttr, hs, hn, hm, hc]
  simp [trim_all]
end
end Go.Proofs.Try.Av
end
section
set_option linter.unusedSimpArgs false
set_option linter.unusedVariables false
namespace Go.Proofs.Try.Av
open Go Go.Av Classical
structure FnT (f : Fn) : Prop extends FnOk f where
  h4 : ∀ n : Int, 0 ≤ n → n < f.Nodes.length → ¬bad4 f.Nodes n
  hsh : ∀ n : Int, 0 ≤ n → n < f.Nodes.length → Shape f.Nodes n
theorem count_take_two {l : List Int} {k i j : Int} (i0 : 0 ≤ i) (hij : i < j) (j1 : j < l.length) (hi : nth l i = k) (hj : nth l j = k) : 2 ≤ l.count k := by
  have h1 : l.take j.toNat ++ [nth l j] = l.take (j + 1).toNat := (take_one_more (by omega) j1).symm
  have h2 : (l.take (j + 1).toNat).count k ≤ l.count k := (List.take_sublist _ _).count_le _
  rw [← h1, List.count_append, hj] at h2
  have h3 : k ∈ l.take j.toNat := by
    have : i.toNat < (l.take j.toNat).length := by rw [List.length_take]; omega
    have e : (l.take j.toNat)[i.toNat] = k := by rw [List.getElem_take, ← nth_get i0 (by omega)]; exact hi
    exact e ▸ List.getElem_mem _
  have h4 := List.count_pos_iff.2 h3
  have h5 : List.count k [k] = 1 := by simp
  omega
theorem cnt_ge {ns : List Node} {k i : Int} (i0 : 0 ≤ i) : ∀ m : Nat, i < m → (m : Int) ≤ ns.length → (nth ns i).Kids.count k ≤ cnt ns k m := by
  intro m
  induction m with
  | zero => intro h; omega
  | succ m ih =>
    intro h1 h2
    have e := cnt_step ns k (i := (m : Int)) (by omega) (by omega)
    rw [show ((m : Int) + 1).toNat = m + 1 by omega, show ((m : Int)).toNat = m by omega] at e
    rw [e]
    by_cases h : i = m
    · subst h; omega
    · have := ih (by omega) (by omega); omega
section
variable {f : Fn} (hf : FnT f)
include hf
theorem FnT.kid {p j : Int} (p0 : 0 ≤ p) (p1 : p < f.Nodes.length) (j0 : 0 ≤ j) (j1 : j < (nth f.Nodes p).Kids.length) : 0 ≤ nth (nth f.Nodes p).Kids j ∧ nth (nth f.Nodes p).Kids j < p ∧ nth (growP f.Nodes) (nth (nth f.Nodes p).Kids j) = p := by
  have := hf.hg.hki p p0 p1 j j0 j1
  exact ⟨this.1, this.2, parent_is hf.hg.hki hf.h4 p0 p1 (nth_mem j0 j1)⟩
theorem FnT.once {p i j : Int} (p0 : 0 ≤ p) (p1 : p < f.Nodes.length) (i0 : 0 ≤ i) (i1 : i < (nth f.Nodes p).Kids.length) (j0 : 0 ≤ j) (j1 : j < (nth f.Nodes p).Kids.length) (h : nth (nth f.Nodes p).Kids i = nth (nth f.Nodes p).Kids j) : i = j := by
  have hk := hf.kid p0 p1 j0 j1
  have hc := cnt_ge (k := nth (nth f.Nodes p).Kids j) p0 f.Nodes.length p1 (Int.le_refl _)
  have hp : cnt f.Nodes (nth (nth f.Nodes p).Kids j) f.Nodes.length = 1 := by
    rcases growP_par f.Nodes hf.hg.hki _ hk.1 (by omega) with ⟨_, h⟩ | ⟨c, _⟩ | ⟨_, h⟩
    · omega
    · exact c
    · omega
  rcases Int.lt_trichotomy i j with h1 | h1 | h1
  · have := count_take_two i0 h1 j1 h rfl; omega
  · exact h1
  · have := count_take_two j0 h1 i1 rfl h; omega
theorem FnT.place {p j : Int} (p0 : 0 ≤ p) (p1 : p < f.Nodes.length) (j0 : 0 ≤ j) (j1 : j < (nth f.Nodes p).Kids.length) : place (nth f.Nodes p).Kids (nth (nth f.Nodes p).Kids j) = j := by
  have h := place_mem (nth_mem (l := (nth f.Nodes p).Kids) j0 j1)
  exact hf.once p0 p1 h.1 h.2.1 j0 j1 h.2.2
structure Ctx (f : Fn) (n : Int) (lp : Bool) (inn : List Bool) : Prop where
  len : inn.length = f.Vars.length
  vis : ∀ v : Int, 0 ≤ v → v < f.Vars.length → (nth inn v = true ↔ Visible f (growP f.Nodes) n v)
  loop : lp = true ↔ InLoop f.Nodes (growP f.Nodes) n (nth (growP f.Nodes) n)
theorem FnT.vis_kid {p j : Int} (p0 : 0 ≤ p) (p1 : p < f.Nodes.length) (j0 : 0 ≤ j) (j1 : j < (nth f.Nodes p).Kids.length) (v : Int) : Visible f (growP f.Nodes) (nth (nth f.Nodes p).Kids j) v ↔ Visible f (growP f.Nodes) p v ∨ Hit f.Nodes v (nth (nth f.Nodes p).Kids j) p := by
  have hk := hf.kid p0 p1 j0 j1
  simp only [Visible, hk.2.2]
  by_cases hh : Hit f.Nodes v (nth (nth f.Nodes p).Kids j) p
  · exact ⟨fun _ => .inr hh, fun _ => .inr (.hit p0 hh)⟩
  · rw [vis_up p0 hh]
    exact ⟨fun h => .inl h, fun h => h.resolve_right hh⟩
theorem FnT.loop_kid {p j : Int} (p0 : 0 ≤ p) (p1 : p < f.Nodes.length) (j0 : 0 ≤ j) (j1 : j < (nth f.Nodes p).Kids.length) : InLoop f.Nodes (growP f.Nodes) (nth (nth f.Nodes p).Kids j) (nth (growP f.Nodes) (nth (nth f.Nodes p).Kids j)) ↔ InLoop f.Nodes (growP f.Nodes) p (nth (growP f.Nodes) p) ∨ (((nth f.Nodes p).Kind = 6 ∨ (nth f.Nodes p).Kind = 7 ∨ (nth f.Nodes p).Kind = 8) ∧ j = (nth f.Nodes p).Kids.length - 1) := by
  have hk := hf.kid p0 p1 j0 j1
  have hL : LoopHit f.Nodes (nth (nth f.Nodes p).Kids j) p ↔ (((nth f.Nodes p).Kind = 6 ∨ (nth f.Nodes p).Kind = 7 ∨ (nth f.Nodes p).Kind = 8) ∧ j = (nth f.Nodes p).Kids.length - 1) := by
    simp only [LoopHit]
    constructor
    · rintro ⟨h1, h2⟩
      exact ⟨h1, (hf.once p0 p1 (by omega) (by omega) j0 j1 h2).symm⟩
    · rintro ⟨h1, h2⟩
      exact ⟨h1, by rw [← h2]⟩
  rw [hk.2.2, ← hL]
  by_cases hh : LoopHit f.Nodes (nth (nth f.Nodes p).Kids j) p
  · exact ⟨fun _ => .inr hh, fun _ => .hit p0 hh⟩
  · rw [inloop_up p0 hh]
    exact ⟨fun h => .inl h, fun h => h.resolve_right hh⟩
theorem Ctx.same {p j : Int} (p0 : 0 ≤ p) (p1 : p < f.Nodes.length) (j0 : 0 ≤ j) (j1 : j < (nth f.Nodes p).Kids.length) {lp : Bool} {inn : List Bool} (h : Ctx f p lp inn) (h1 : ¬(nth f.Nodes p).Kind = 1) (h2 : ((nth f.Nodes p).Kind = 6 ∨ (nth f.Nodes p).Kind = 7 ∨ (nth f.Nodes p).Kind = 8 ∨ (nth f.Nodes p).Kind = 12) → j < (nth f.Nodes p).Kids.length - 1) : Ctx f (nth (nth f.Nodes p).Kids j) lp inn := by
  refine ⟨h.len, fun v v0 v1 => ?_, ?_⟩
  · rw [h.vis v v0 v1, hf.vis_kid p0 p1 j0 j1 v]
    refine ⟨.inl, fun hh => hh.resolve_right ?_⟩
    rintro (⟨hk, _⟩ | ⟨hk, hp, _⟩)
    · exact h1 hk
    · rw [hf.place p0 p1 j0 j1] at hp
      have := h2 (by rcases hk with hk | hk | hk <;> simp [hk])
      omega
  · rw [h.loop, hf.loop_kid p0 p1 j0 j1]
    refine ⟨.inl, fun hh => hh.resolve_right ?_⟩
    rintro ⟨hk, hj⟩
    have := h2 (by rcases hk with hk | hk | hk <;> simp [hk])
    omega
theorem nth_addRefs (L : Nat) (refs : List Int) (a : List Bool) (ha : a.length = L) (v : Int) (v0 : 0 ≤ v) (v1 : v < L) : nth (addRefs L refs a) v = true ↔ nth a v = true ∨ v ∈ refs := by
  have := iter_inv (g := addOne L refs) (fun i (b : List Bool) => b.length = L ∧ ∀ v : Int, 0 ≤ v → v < L → (nth b v = true ↔ nth a v = true ∨ v ∈ refs.take i.toNat)) 0 (refs.length : Int) (by
    rintro i b i0 i1 ⟨hl, h⟩
    refine ⟨by simp only [addOne]; split <;> simpa using hl, fun v v0 v1 => ?_⟩
    rw [take_one_more i0 i1, List.mem_append, List.mem_singleton, ← or_assoc, ← h v v0 v1, addOne]
    by_cases hc : 0 ≤ nth refs i ∧ nth refs i < L
    · rw [if_pos hc, nth_set hc.1 (by omega) v0]
      by_cases he : nth refs i = v
      · rw [if_pos he]; simp [he]
      · rw [if_neg he]
        exact ⟨.inl, fun h => h.resolve_right (fun e => he e.symm)⟩
    · rw [if_neg hc]
      exact ⟨.inl, fun h => h.resolve_right (fun e => hc (e ▸ ⟨v0, v1⟩))⟩) (a := a) (by omega) ⟨ha, fun v v0 v1 => by simp⟩
  have h2 := this.2 v v0 v1
  rw [show refs.take (refs.length : Int).toNat = refs by simp] at h2
  exact h2
theorem place_iff (l : List Int) (x : Int) : 0 ≤ place l x ↔ x ∈ l := ⟨fun h => (place_nonneg h).1, fun h => (place_mem h).1⟩
theorem Ctx.last {p j : Int} (p0 : 0 ≤ p) (p1 : p < f.Nodes.length) (j0 : 0 ≤ j) (j1 : j = (nth f.Nodes p).Kids.length - 1) {lp : Bool} {inn : List Bool} (h : Ctx f p lp inn) (hk : (nth f.Nodes p).Kind = 7 ∨ (nth f.Nodes p).Kind = 8 ∨ (nth f.Nodes p).Kind = 12) : Ctx f (nth (nth f.Nodes p).Kids j) (if (nth f.Nodes p).Kind = 12 then lp else true) (addRefs f.Vars.length (nth f.Nodes p).Refs inn) := by
  refine ⟨by rw [addRefs_length]; exact h.len, fun v v0 v1 => ?_, ?_⟩
  · rw [nth_addRefs hf _ _ _ h.len v v0 v1, h.vis v v0 v1, hf.vis_kid p0 p1 j0 (by omega) v]
    have : Hit f.Nodes v (nth (nth f.Nodes p).Kids j) p ↔ v ∈ (nth f.Nodes p).Refs := by
      rw [← place_iff hf]
      constructor
      · rintro (⟨h1, _⟩ | ⟨_, _, hd⟩)
        · omega
        · exact hd.2
      · intro h2
        exact .inr ⟨hk, by rw [hf.place p0 p1 j0 (by omega)]; exact j1, by rcases hk with e | e | e <;> simp [e], h2⟩
    rw [this]
  · rw [hf.loop_kid p0 p1 j0 (by omega)]
    by_cases h12 : (nth f.Nodes p).Kind = 12
    · rw [if_pos h12, h.loop]
      exact ⟨.inl, fun hh => hh.resolve_right (fun h2 => by omega)⟩
    · rw [if_neg h12]
      exact ⟨fun _ => .inr ⟨by omega, j1⟩, fun _ => rfl⟩
theorem Ctx.body {p j : Int} (p0 : 0 ≤ p) (p1 : p < f.Nodes.length) (j0 : 0 ≤ j) (j1 : j = (nth f.Nodes p).Kids.length - 1) {lp : Bool} {inn : List Bool} (h : Ctx f p lp inn) (hk : (nth f.Nodes p).Kind = 6) : Ctx f (nth (nth f.Nodes p).Kids j) true inn := by
  refine ⟨h.len, fun v v0 v1 => ?_, ?_⟩
  · rw [h.vis v v0 v1, hf.vis_kid p0 p1 j0 (by omega) v]
    refine ⟨.inl, fun hh => hh.resolve_right ?_⟩
    rintro (⟨h1, _⟩ | ⟨h1, _⟩) <;> omega
  · rw [hf.loop_kid p0 p1 j0 (by omega)]
    exact ⟨fun _ => .inr ⟨by omega, j1⟩, fun _ => rfl⟩
theorem Ctx.block {p j : Int} (p0 : 0 ≤ p) (p1 : p < f.Nodes.length) (j0 : 0 ≤ j) (j1 : j < (nth f.Nodes p).Kids.length) {lp : Bool} {inn inn' : List Bool} (h : Ctx f p lp inn) (hk : (nth f.Nodes p).Kind = 1) (hl : inn'.length = f.Vars.length) (hi : ∀ v : Int, 0 ≤ v → v < f.Vars.length → (nth inn' v = true ↔ nth inn v = true ∨ ∃ i : Int, 0 ≤ i ∧ i < j ∧ (nth f.Nodes (nth (nth f.Nodes p).Kids i)).Kind = 2 ∧ v ∈ (nth f.Nodes (nth (nth f.Nodes p).Kids i)).Refs)) : Ctx f (nth (nth f.Nodes p).Kids j) lp inn' := by
  refine ⟨hl, fun v v0 v1 => ?_, ?_⟩
  · rw [hi v v0 v1, h.vis v v0 v1, hf.vis_kid p0 p1 j0 j1 v]
    have : Hit f.Nodes v (nth (nth f.Nodes p).Kids j) p ↔ ∃ i : Int, 0 ≤ i ∧ i < j ∧ (nth f.Nodes (nth (nth f.Nodes p).Kids i)).Kind = 2 ∧ v ∈ (nth f.Nodes (nth (nth f.Nodes p).Kids i)).Refs := by
      simp only [Hit, hf.place p0 p1 j0 j1]
      constructor
      · rintro (⟨_, i, i0, i1, i2, i3⟩ | ⟨h1, _⟩)
        · exact ⟨i, i0, i1, i2, (place_iff hf _ _).1 i3.2⟩
        · omega
      · rintro ⟨i, i0, i1, i2, i3⟩
        exact .inl ⟨hk, i, i0, i1, i2, by simp, (place_iff hf _ _).2 i3⟩
    rw [this]
  · rw [h.loop, hf.loop_kid p0 p1 j0 j1]
    exact ⟨.inl, fun hh => hh.resolve_right (fun h2 => by omega)⟩
end
end Go.Proofs.Try.Av
end
section
attribute [local congr] ite_congr
set_option linter.unusedSimpArgs false
set_option linter.unusedVariables false
set_option maxRecDepth 10000
set_option maxHeartbeats 400000
namespace Go.Proofs.Try.Av
open Go Go.Av Classical
structure Step (cid : Nat) (H H' : Heap) (ed : Edges) : Prop where
  len : H.length ≤ H'.length
  same : ∀ id, id < H.length → id ≠ cid → H'[id]? = H[id]?
  fw : ∀ b r, H'[cid]? = some b → r ∈ brefs b → (∃ b0, H[cid]? = some b0 ∧ r ∈ brefs b0) ∨ (cid, r) ∈ ed
  bd : ∀ e ∈ ed, (e.1 = cid ∧ cid < e.2) ∧ e.2 < H'.length
structure Fr (cid iid : Nat) (H0 H : Heap) (ed : Edges) (inn : List Bool) : Prop where
  len : H0.length ≤ H.length
  same : ∀ id, id < H0.length → id ≠ cid → id ≠ iid → H[id]? = H0[id]?
  inn : H[iid]? = some (.cells 1 (bl inn))
  fw : ∀ b r, H[cid]? = some b → r ∈ brefs b → (∃ b0, H0[cid]? = some b0 ∧ r ∈ brefs b0) ∨ (cid, r) ∈ ed
  bd : ∀ e ∈ ed, (e.1 = cid ∧ cid < e.2) ∧ e.2 < H.length
inductive Sub (ns : List Node) : Int → Int → Prop
  | self (n : Int) : Sub ns n n
  | kid {n j m : Int} : 0 ≤ j → j < (nth ns n).Kids.length → Sub ns (nth (nth ns n).Kids j) m → Sub ns n m
structure See (f : Fn) (sid iid cid base g : Nat) (caps : List PV) where
  Acc : (Int → Prop) → Heap → Prop
  Pre : Heap → Prop
  stable : ∀ V H H', Acc V H → H'[cid]? = H[cid]? → (∀ b r, H[cid]? = some b → r ∈ brefs b → H'[r]? = H[r]?) → Acc V H'
  maps : ∀ V H, Acc V H → ∀ b r, H[cid]? = some b → r ∈ brefs b → ∃ es, H[r]? = some (.map es)
  pre : ∀ H H', Pre H → (∀ id, id < base → id ≠ cid → id ≠ iid → H'[id]? = H[id]?) → Pre H'
  see : ∀ (n : Int) lp inn V H, 0 ≤ n → n < f.Nodes.length → Ctx f n lp inn → base ≤ H.length → Pre H → H[iid]? = some (.cells 1 (bl inn)) → Acc V H → ∃ H' ed', ES A g (.int .i64 n :: .sl iid 0 f.Vars.length f.Vars.length :: .bool lp :: caps) H = some (.tup [], H', ed') ∧ Acc (fun m => V m ∨ m = n) H' ∧ Step cid H H' ed'
  c1 : cid < base
  i1 : iid < base
  s1 : sid < base
  ci : cid ≠ iid
  cs : cid ≠ sid
  is : iid ≠ sid
def appK : Option (List (List PV)) → Bool → Heap → Nat → Nat → PV → Option (PV × Heap × Edges)
  | some new, true, H, sz, bytes, x => appendTo H sz bytes x new
  | _, _, _, _, _, _ => none
theorem e_append {P : AProg} (sz bytes : Nat) (x y : Opd) (st : St) : evOp P.glob (CL P) st (.append sz bytes x y) = appK (rowsOf st.H (y.get P.glob st)) (sizeIs st.H sz (y.get P.glob st)) st.H sz bytes (x.get P.glob st) := by
  show (match rowsOf st.H (y.get P.glob st), sizeIs st.H sz (y.get P.glob st) with | some new, true => appendTo st.H sz bytes (x.get P.glob st) new | _, _ => none) = _
  cases rowsOf st.H (y.get P.glob st) <;> cases sizeIs st.H sz (y.get P.glob st) <;> rfl
theorem appK_some (new : List (List PV)) (H : Heap) (sz bytes : Nat) (x : PV) : appK (some new) true H sz bytes x = appendTo H sz bytes x new := rfl
theorem appendTo_nils (H : Heap) (sz bytes : Nat) (new : List (List PV)) (h : new.length * bytes ≤ 35184372088832) : appendTo H sz bytes .nils new = some (.sl H.length 0 new.length new.length, H ++ [.cells sz new], []) := by
  simp [appendTo, h]
theorem rows_of {H : Heap} {id L : Nat} {a : List Bool} (h : H[id]? = some (.cells 1 (bl a))) (hl : a.length = L) : rowsOf H (.sl id 0 L L) = some (bl a) ∧ sizeIs H 1 (.sl id 0 L L) = true := by
  have e1 : (bl a).length = L := by simpa using hl
  refine ⟨?_, by simp [sizeIs, h]⟩
  simp only [rowsOf, h, e1, beq_self_eq_true, Nat.zero_add, Nat.le_refl, decide_true, Bool.and_self, List.drop_zero]
  rw [List.take_of_length_le (by omega)]
theorem trim_cases (k : Nat) (roots : List PV) (H : Heap) (ed : Edges) : trim k roots H ed = (H, ed) ∨ (trim k roots H ed = (H.take k, ed.filter fun e => decide (e.2 < k)) ∧ ∀ e ∈ ed, k ≤ e.1 ∨ e.2 < k) := by
  rw [trim]
  cases h : bare k (refsL roots) && ed.all fun e => decide (k ≤ e.1) || decide (e.2 < k) with
  | false => exact .inl rfl
  | true =>
    right
    refine ⟨rfl, fun e he => ?_⟩
    rw [Bool.and_eq_true] at h
    have := List.all_eq_true.1 h.2 e he
    simpa using this
section
variable {f : Fn} {sid iid cid base g : Nat} {caps : List PV} (S : See f sid iid cid base g caps)
theorem Fr.cut {H0 H : Heap} {ed : Edges} {inn : List Bool} {V V0 : Int → Prop} (h : Fr cid iid H0 H ed inn) (hA0 : S.Acc V0 H0) (hA : S.Acc V H) (hb : base ≤ H0.length) (k : Nat) (hk : H0.length ≤ k) (hkH : k ≤ H.length) (roots : List PV) :
    Fr cid iid H0 (trim k roots H ed).1 (trim k roots H ed).2 inn ∧ S.Acc V (trim k roots H ed).1 ∧ k ≤ (trim k roots H ed).1.length ∧ ∀ id, id < k → (trim k roots H ed).1[id]? = H[id]? := by
  have hc := S.c1
  have hi := S.i1
  rcases trim_cases k roots H ed with e | ⟨e, he⟩
  · rw [e]; exact ⟨h, hA, hkH, fun _ _ => rfl⟩
  · rw [e]
    have ht : ∀ id, id < k → (H.take k)[id]? = H[id]? := fun id hid => by rw [List.getElem?_take, if_pos hid]
    have hfw : ∀ b r, H[cid]? = some b → r ∈ brefs b → (∃ b0, H0[cid]? = some b0 ∧ r ∈ brefs b0) ∨ ((cid, r) ∈ ed ∧ r < k) := fun b r hb2 hr => by
      rcases h.fw b r hb2 hr with h1 | h1
      · exact .inl h1
      · rcases he _ h1 with h2 | h2
        · dsimp only at h2; omega
        · exact .inr ⟨h1, h2⟩
    have hr : ∀ b r, H[cid]? = some b → r ∈ brefs b → r < k := fun b r hb2 hr => by
      rcases hfw b r hb2 hr with ⟨b0, h1, h2⟩ | ⟨_, h2⟩
      · obtain ⟨es, h3⟩ := S.maps V0 H0 hA0 b0 r h1 h2
        have := some_lt h3; omega
      · exact h2
    refine ⟨⟨?_, fun id h1 h2 h3 => ?_, ?_, fun b r hb2 hr2 => ?_, fun e he3 => ?_⟩, ?_, ?_, ht⟩
    · show H0.length ≤ (H.take k).length; rw [List.length_take]; omega
    · show (H.take k)[id]? = _; rw [ht id (by omega), h.same id h1 h2 h3]
    · show (H.take k)[iid]? = _; rw [ht iid (by omega), h.inn]
    · have hb3 : H[cid]? = some b := by rw [← ht cid (by omega)]; exact hb2
      rcases hfw b r hb3 hr2 with h1 | ⟨h1, h2⟩
      · exact .inl h1
      · exact .inr (List.mem_filter.2 ⟨h1, by simpa using h2⟩)
    · have h5 := List.mem_filter.1 he3
      exact ⟨(h.bd e h5.1).1, by show e.2 < (H.take k).length; rw [List.length_take]; have := h5.2; simp at this; omega⟩
    · exact S.stable V H _ hA (ht cid (by omega)) (fun b r hb2 hr2 => ht r (hr b r hb2 hr2))
    · show k ≤ (H.take k).length; rw [List.length_take]; omega
include S in
theorem Fr.step {H0 H H' : Heap} {ed ed' : Edges} {inn : List Bool} (h : Fr cid iid H0 H ed inn) (hs : Step cid H H' ed') (hb : base ≤ H0.length) : Fr cid iid H0 H' (ed' ++ ed) inn := by
  have hc := S.c1
  have hi := S.i1
  have hl := h.len
  refine ⟨Nat.le_trans hl hs.len, fun id h1 h2 h3 => by rw [hs.same id (by omega) h2, h.same id h1 h2 h3], by rw [hs.same iid (by omega) (Ne.symm S.ci), h.inn], fun b r hb2 hr => ?_, fun e he => ?_⟩
  rcases hs.fw b r hb2 hr with ⟨b0, h1, h2⟩ | h1
  · rcases h.fw b0 r h1 h2 with h3 | h3
    · exact .inl h3
    · exact .inr (List.mem_append_right _ h3)
  · exact .inr (List.mem_append_left _ h1)
  · have hl2 := hs.len
    rcases List.mem_append.1 he with h1 | h1
    · exact hs.bd e h1
    · have := h.bd e h1; exact ⟨this.1, by omega⟩
theorem Fr.start {H0 : Heap} {inn : List Bool} (hi : H0[iid]? = some (.cells 1 (bl inn))) : Fr cid iid H0 H0 [] inn := ⟨Nat.le_refl _, fun _ _ _ _ => rfl, hi, fun b r h1 h2 => .inl ⟨b, h1, h2⟩, fun e he => by cases he⟩
theorem Fr.app {H0 H : Heap} {ed : Edges} {inn : List Bool} {V : Int → Prop} (h : Fr cid iid H0 H ed inn) (hA : S.Acc V H) (hb : base ≤ H0.length) (l : Heap) (ed2 : Edges) (h2 : ∀ e ∈ ed2, (e.1 = cid ∧ cid < e.2) ∧ e.2 < (H ++ l).length := by simp) : Fr cid iid H0 (H ++ l) (ed2 ++ ed) inn ∧ S.Acc V (H ++ l) := by
  have hc := S.c1
  have hi := S.i1
  have hl := h.len
  have ha : ∀ id, id < H.length → (H ++ l)[id]? = H[id]? := fun id hid => List.getElem?_append_left hid
  refine ⟨⟨by rw [List.length_append]; omega, fun id h1 h2 h3 => by rw [ha id (by omega), h.same id h1 h2 h3], by rw [ha iid (by omega), h.inn], fun b r hb2 hr => ?_, fun e he => ?_⟩, ?_⟩
  · rw [ha cid (by omega)] at hb2
    rcases h.fw b r hb2 hr with h3 | h3
    · exact .inl h3
    · exact .inr (List.mem_append_right _ h3)
  · rcases List.mem_append.1 he with h1 | h1
    · exact h2 e h1
    · have := h.bd e h1; exact ⟨this.1, by rw [List.length_append]; omega⟩
  · refine S.stable V H _ hA (ha cid (by omega)) fun b r hb2 hr => ?_
    obtain ⟨es, h3⟩ := S.maps V H hA b r hb2 hr
    exact ha r (some_lt h3)
def WalkOk (n : Int) : Prop := ∀ lp inn V H, Ctx f n lp inn → base ≤ H.length → S.Pre H → H[sid]? = some (.cells 9 [scell f iid (.fn g caps)]) → H[iid]? = some (.cells 1 (bl inn)) → S.Acc V H →
  ∃ H' ed', ES A n_impl_scoper_walk [.ptr sid 0 0 1, .int .i64 n, .bool lp] H = some (.tup [], H', ed') ∧ S.Acc (fun m => V m ∨ Sub f.Nodes n m) H' ∧ Step cid H H' ed'
structure KInv (own : List (Nat × Blk)) (H0 : Heap) (nd : Node) (n : Int) (inn : List Bool) (V : Int → Prop) (i : Int) (H : Heap) (ed : Edges) : Prop where
  fr : Fr cid iid H0 H ed inn
  bx : H[H0.length]? = some (.cells 1 [[.ptr sid 0 0 1]])
  nx : H[H0.length + 1]? = some (.cells 8 [nd.cells])
  ow : ∀ p ∈ own, H0.length ≤ p.1 ∧ H[p.1]? = some p.2
  acc : S.Acc (fun m => (V m ∨ m = n) ∨ ∃ j : Int, 0 ≤ j ∧ j < i ∧ Sub f.Nodes (nth nd.Kids j) m) H
theorem lw_kids (hf : FnT f) (n : Int) (n0 : 0 ≤ n) (n1 : n < f.Nodes.length) (lp : Bool) (inn : List Bool) (V V0 : Int → Prop) (H0 : Heap) (hb : base ≤ H0.length) (hA0 : S.Acc V0 H0) (hP : S.Pre H0) (hs : H0[sid]? = some (.cells 9 [scell f iid (.fn g caps)]))
    (v6 v7 v8 v47 : PV) (r6 : refs v6 = [H0.length + 1])
    (hc : ∀ j : Int, 0 ≤ j → j < (nth f.Nodes n).Kids.length → Ctx f (nth (nth f.Nodes n).Kids j) lp inn) (hw : ∀ j : Int, 0 ≤ j → j < (nth f.Nodes n).Kids.length → WalkOk S (nth (nth f.Nodes n).Kids j))
    (own : List (Nat × Blk)) (H : Heap) (ed : Edges) (hK : KInv S own H0 (nth f.Nodes n) n inn V 0 H ed) :
    ∃ H' ed', EV A (.loop (B_impl_scoper_walk 4)) ⟨[(0, .ptr sid 0 0 1), (1, .int .i64 n), (2, .bool lp), (3, .ptr H0.length 0 0 1), (6, v6), (7, v7), (8, v8), (47, v47), (143, .bool false), (49, ints (nth f.Nodes n).Kids), (50, .int .i64 (nth f.Nodes n).Kids.length), (51, .int .i64 0)], [], H, ed⟩ = some (.exit 1, ⟨[(0, .ptr sid 0 0 1), (1, .int .i64 n), (2, .bool lp), (3, .ptr H0.length 0 0 1), (6, v6), (7, v7), (8, v8), (47, v47), (143, .bool false), (49, ints (nth f.Nodes n).Kids), (50, .int .i64 (nth f.Nodes n).Kids.length), (51, .int .i64 (nth f.Nodes n).Kids.length)], [], H', ed'⟩) ∧ KInv S own H0 (nth f.Nodes n) n inn V (nth f.Nodes n).Kids.length H' ed' := by
  have hkl := (hf.hg.hsz n).2
  obtain ⟨r, e, H', ed', rfl, h⟩ := loop_ind (P := A) (body := (B_impl_scoper_walk 4)) (fun a : Int × Heap × Edges => ⟨[(0, .ptr sid 0 0 1), (1, .int .i64 n), (2, .bool lp), (3, .ptr H0.length 0 0 1), (6, v6), (7, v7), (8, v8), (47, v47), (143, .bool false), (49, ints (nth f.Nodes n).Kids), (50, .int .i64 (nth f.Nodes n).Kids.length), (51, .int .i64 a.1)], [], a.2.1, a.2.2⟩)
    (fun a => 0 ≤ a.1 ∧ a.1 ≤ (nth f.Nodes n).Kids.length ∧ KInv S own H0 (nth f.Nodes n) n inn V a.1 a.2.1 a.2.2) (fun a => ((nth f.Nodes n).Kids.length - a.1).toNat)
    (fun a r => ∃ H' ed', r = (AExit.exit 1, (⟨[(0, .ptr sid 0 0 1), (1, .int .i64 n), (2, .bool lp), (3, .ptr H0.length 0 0 1), (6, v6), (7, v7), (8, v8), (47, v47), (143, .bool false), (49, ints (nth f.Nodes n).Kids), (50, .int .i64 (nth f.Nodes n).Kids.length), (51, .int .i64 (nth f.Nodes n).Kids.length)], [], H', ed'⟩ : St)) ∧ KInv S own H0 (nth f.Nodes n) n inn V (nth f.Nodes n).Kids.length H' ed') (by
    rintro ⟨i, H, ed⟩ ⟨i0, i1, hK⟩
    dsimp only at i0 i1 hK ⊢
    by_cases hn : i = (nth f.Nodes n).Kids.length
    · left
      subst hn
      exact ⟨_, by simp (maxSteps := 10000000) -implicitDefEqProofs +contextual (disch := omega) only [ub_impl_scoper_walk_4, rr_impl_scoper_walk, ints, ↓XD, XU, refs, goneIn, Nat.beq, Nat.ble, List.isEmpty, ↓reduceIte, sevalprocAttr, Int.lt_irrefl], by simp, H, ed, rfl, hK⟩
    · right
      have i2 : i < (nth f.Nodes n).Kids.length := by omega
      have hl := hK.fr.len
      have hcc := S.c1
      have hss : H[sid]? = some (.cells 9 [scell f iid (.fn g caps)]) := by rw [hK.fr.same sid (by have := S.s1; omega) (Ne.symm S.cs) (Ne.symm S.is), hs]
      obtain ⟨H', ed', he, hA, hS⟩ := hw i i0 i2 lp inn _ H (hc i i0 i2) (by omega) (S.pre H0 H hP (fun id h1 h2 h3 => hK.fr.same id (by omega) h2 h3)) hss hK.fr.inn hK.acc
      have hF := hK.fr.step S hS hb
      have hbx := hK.bx
      have hF2 := Fr.cut S hF hA0 hA hb H.length hl hS.len
      refine ⟨(i + 1, trim H.length [.ptr sid 0 0 1, .int .i64 n, .bool lp, .ptr H0.length 0 0 1, v6, v7, v8, v47, .bool false, ints (nth f.Nodes n).Kids, .int .i64 (nth f.Nodes n).Kids.length, .int .i64 (i + 1)] H' (ed' ++ ed)), _, ⟨by omega, by omega, ?_⟩, by dsimp only; omega, by (simp (maxSteps := 10000000) -implicitDefEqProofs +contextual (disch := omega) only [ub_impl_scoper_walk_4, rr_impl_scoper_walk, ints, ↓XD, XU, refs, goneIn, Nat.beq, Nat.ble, List.isEmpty, ↓reduceIte, sevalprocAttr, i2, hbx, he]) <;> rfl, ?_, ?_⟩
      · have hF2 := hF2 [.ptr sid 0 0 1, .int .i64 n, .bool lp, .ptr H0.length 0 0 1, v6, v7, v8, v47, .bool false, ints (nth f.Nodes n).Kids, .int .i64 (nth f.Nodes n).Kids.length, .int .i64 (i + 1)]
        have hb1 := some_lt hK.bx
        have hb2 := some_lt hK.nx
        refine ⟨hF2.1, by rw [hF2.2.2.2 _ hb1, hS.same _ hb1 (by omega), hK.bx], by rw [hF2.2.2.2 _ hb2, hS.same _ hb2 (by omega), hK.nx], fun p hp => by
          obtain ⟨o1, o2⟩ := hK.ow p hp
          have o3 := some_lt o2
          exact ⟨o1, by rw [hF2.2.2.2 _ o3, hS.same _ o3 (by omega), o2]⟩, ?_⟩
        have := hF2.2.1
        refine cast (congrArg (fun P => S.Acc P _) (funext fun m => propext ?_)) this
        constructor
        · rintro (h | h)
          · rcases h with h | ⟨j, j0, j1, h⟩
            · exact .inl h
            · exact .inr ⟨j, j0, by omega, h⟩
          · exact .inr ⟨i, i0, by omega, h⟩
        · rintro (h | ⟨j, j0, j1, h⟩)
          · exact .inl (.inl h)
          · by_cases hj : j = i
            · subst hj; exact .inr h
            · exact .inl (.inr ⟨j, j0, by omega, h⟩)
      · simp [St.next, ints]
      · rintro r ⟨H', ed', rfl, h⟩; exact ⟨H', ed', rfl, h⟩) (0, H, ed) ⟨Int.le_refl _, by omega, hK⟩
  exact ⟨H', ed', e, h⟩
end
end Go.Proofs.Try.Av
end
