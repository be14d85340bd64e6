/- What the functions that FnExactCaptured reaches give, each with its own bounds. -/
import Derived.Test.YtffiogaamojjeaaCapEp1
set_option linter.all false
section
attribute [local congr] ite_congr
set_option maxRecDepth 10000
set_option maxHeartbeats 4000000
namespace Go.Proofs.Try.Av
open Go Go.Av Classical
section
theorem li_nodeOk0 (v0 : PV) (a : Int) (l : List Int) (H : Heap) (hb : l.length ≤ 1048576) : EV A (.loop (B_zNo 0)) ⟨[(0, v0), (1, .int .i64 a), (2, .ptr 0 0 0 1), (4, .bool false), (5, .ptr 1 0 0 1), (67, ints l), (68, .int .i64 l.length), (69, .int .i64 (0))], [], H, []⟩ = some (match seek (fun j => nth l j < 0 ∨ a ≤ nth l j) 0 l.length with | some j => (AExit.ret, (⟨[(0, v0), (1, .int .i64 a), (2, .ptr 0 0 0 1), (4, .bool false), (5, .ptr 1 0 0 1), (67, ints l), (68, .int .i64 l.length), (69, .int .i64 j), (7, .int .i64 (nth l j))], [], H, []⟩ : St)) | none => (AExit.exit 0, (⟨[(0, v0), (1, .int .i64 a), (2, .ptr 0 0 0 1), (4, .bool false), (5, .ptr 1 0 0 1), (67, ints l), (68, .int .i64 l.length), (69, .int .i64 (l.length))], [], H, []⟩ : St))) := by
  refine loop_search (fun i => ⟨[(0, v0), (1, .int .i64 a), (2, .ptr 0 0 0 1), (4, .bool false), (5, .ptr 1 0 0 1), (67, ints l), (68, .int .i64 l.length), (69, .int .i64 i)], [], H, []⟩) (fun j => nth l j < 0 ∨ a ≤ nth l j) (fun j => (AExit.ret, (⟨[(0, v0), (1, .int .i64 a), (2, .ptr 0 0 0 1), (4, .bool false), (5, .ptr 1 0 0 1), (67, ints l), (68, .int .i64 l.length), (69, .int .i64 j), (7, .int .i64 (nth l j))], [], H, []⟩ : St))) (AExit.exit 0, (⟨[(0, v0), (1, .int .i64 a), (2, .ptr 0 0 0 1), (4, .bool false), (5, .ptr 1 0 0 1), (67, ints l), (68, .int .i64 l.length), (69, .int .i64 (l.length))], [], H, []⟩ : St)) (0) (l.length) ?_ ?_ ?_ (0) (by omega) (by omega)
  · intro i hi hn hp
    try simp only [Classical.not_not] at hp
    refine ⟨_, by simp -implicitDefEqProofs +contextual (disch := omega) only [ub_zNo_0, rr_zNo, ↓XD, XU, ↓reduceIte, sevalprocAttr, ints, hn, hp]; rfl, ?_⟩
    first | (simp [St.next, trim_all]; done) | (simp [St.next, trim, bare, refsL, refs, refs]; done)
  · intro i hi hn hp
    refine ⟨by simp -implicitDefEqProofs +contextual (disch := omega) only [ub_zNo_0, rr_zNo, ↓XD, XU, ↓reduceIte, sevalprocAttr, ints, hn, hp], by simp⟩
  · rintro i hi rfl
    refine ⟨by simp -implicitDefEqProofs +contextual (disch := omega) only [ub_zNo_0, rr_zNo, ↓XD, XU, ↓reduceIte, sevalprocAttr, ints, Int.lt_irrefl], by simp⟩
section
variable (f : Fn) (a : Int) (h0 : 0 ≤ a) (h1 : a < f.Nodes.length) (hk : (nth f.Nodes a).Kids.length ≤ 1048576)
theorem kid_is (hki : ∀ i : Int, 0 ≤ i → i < (nth f.Nodes a).Kids.length → 0 ≤ nth (nth f.Nodes a).Kids i ∧ nth (nth f.Nodes a).Kids i < a) {i : Int} (i0 : 0 ≤ i) (i1 : i < (nth f.Nodes a).Kids.length) : l3kid f.Nodes a i = ikind f.Nodes (nth f.Nodes a).Kids i := by
  have := hki i i0 i1
  rw [l3kid, if_neg (by omega), if_neg (by omega)]
theorem exprs_one (ns : List Node) (a : Int) : Exprs ns a 0 1 ↔ isExpr (l3kid ns a 0) := ⟨fun h => h 0 (by omega) (by omega), fun h j j0 j1 => (show j = 0 by omega) ▸ h⟩
theorem exprs_two (ns : List Node) (a : Int) : Exprs ns a 0 2 ↔ isExpr (l3kid ns a 0) ∧ isExpr (l3kid ns a 1) := ⟨fun h => ⟨h 0 (by omega) (by omega), h 1 (by omega) (by omega)⟩, fun h j j0 j1 => by
  have : j = 0 ∨ j = 1 := by omega
  rcases this with e | e <;> subst e
  · exact h.1
  · exact h.2⟩
theorem exprs_three (ns : List Node) (a : Int) : Exprs ns a 0 3 ↔ isExpr (l3kid ns a 0) ∧ isExpr (l3kid ns a 1) ∧ isExpr (l3kid ns a 2) := ⟨fun h => ⟨h 0 (by omega) (by omega), h 1 (by omega) (by omega), h 2 (by omega) (by omega)⟩, fun h j j0 j1 => by
  have : j = 0 ∨ j = 1 ∨ j = 2 := by omega
  rcases this with e | e | e <;> subst e
  · exact h.1
  · exact h.2.1
  · exact h.2.2⟩
theorem exprs_all (hki : ∀ i : Int, 0 ≤ i → i < (nth f.Nodes a).Kids.length → 0 ≤ nth (nth f.Nodes a).Kids i ∧ nth (nth f.Nodes a).Kids i < a) {i : Int} (i0 : 0 ≤ i) : Exprs f.Nodes a i (nth f.Nodes a).Kids.length ↔ IAll isExpr f.Nodes (nth f.Nodes a).Kids i :=
  ⟨fun h j j0 j1 => by rw [← kid_is f a hki (by omega) j1]; exact h j j0 j1, fun h j j0 j1 => by rw [kid_is f a hki (by omega) j1]; exact h j j0 j1⟩
theorem stats_all (hki : ∀ i : Int, 0 ≤ i → i < (nth f.Nodes a).Kids.length → 0 ≤ nth (nth f.Nodes a).Kids i ∧ nth (nth f.Nodes a).Kids i < a) : (∀ i : Int, 0 ≤ i → i < (nth f.Nodes a).Kids.length → isStat (l3kid f.Nodes a i)) ↔ IAll isStat f.Nodes (nth f.Nodes a).Kids 0 :=
  ⟨fun h j j0 j1 => by rw [← kid_is f a hki (by omega) j1]; exact h j j0 j1, fun h j j0 j1 => by rw [kid_is f a hki (by omega) j1]; exact h j j0 j1⟩
variable (hl : ∀ v0 H, EV A (.loop (B_zNo 0)) ⟨[(0, v0), (1, .int .i64 a), (2, .ptr 0 0 0 1), (4, .bool false), (5, .ptr 1 0 0 1), (67, ints (nth f.Nodes a).Kids), (68, .int .i64 (nth f.Nodes a).Kids.length), (69, .int .i64 0)], [], H, []⟩ = some (.exit 0, ⟨[(0, v0), (1, .int .i64 a), (2, .ptr 0 0 0 1), (4, .bool false), (5, .ptr 1 0 0 1), (67, ints (nth f.Nodes a).Kids), (68, .int .i64 (nth f.Nodes a).Kids.length), (69, .int .i64 (nth f.Nodes a).Kids.length)], [], H, []⟩))
   (hki : ∀ i : Int, 0 ≤ i → i < (nth f.Nodes a).Kids.length → 0 ≤ nth (nth f.Nodes a).Kids i ∧ nth (nth f.Nodes a).Kids i < a) (hc : ¬200 < ((nth f.Nodes a).Kids.length : Int))
include h0 h1 hk hl hki hc
theorem nk_2 (hK : (nth f.Nodes a).Kind = 2) : EP A n_zNo [.agg f.cells, .int .i64 a] = some (.bool (decide (Shape f.Nodes a))) := by
  have hs : isStat 2 := by simp only [isStat]; omega
  have he : ¬isExpr 2 := by simp only [isExpr]; omega
  have hki' : ∀ i : Int, 0 ≤ i → i < (nth f.Nodes a).Kids.length → 0 ≤ nth (nth f.Nodes a).Kids i ∧ nth (nth f.Nodes a).Kids i < f.Nodes.length := fun i i0 i1 => by have := hki i i0 i1; omega
  have ea1 := fun f0 p0 p1 p2 p3 p4 p5 q0 q1 q2 q3 q4 q5 q6 h0 h1 c hc => ei_all n_impl_expression isExpr ei_expression f0 f.Nodes (nth f.Nodes a).Kids p0 p1 p2 p3 p4 p5 q0 q1 q2 q3 q4 q5 q6 h0 h1 hk c hc hki'
  have ea2 := fun f0 p0 p1 p2 p3 p4 p5 q0 q1 q2 q3 q4 q5 q6 h0 h1 c hc => ei_all n_impl_statement isStat ei_statement f0 f.Nodes (nth f.Nodes a).Kids p0 p1 p2 p3 p4 p5 q0 q1 q2 q3 q4 q5 q6 h0 h1 hk c hc hki'
  have k0 := hki' 0
  have k1 := hki' 1
  have k2 := hki' 2
  have k3 := hki' 3
  have k4 := hki' ((nth f.Nodes a).Kids.length - 1)
  have k5 := hki' ((nth f.Nodes a).Kids.length - 2)
  have e0 := @kid_is f a hki 0
  have e1 := @kid_is f a hki 1
  have e2 := @kid_is f a hki 2
  have e3 := @kid_is f a hki 3
  have e4 := @kid_is f a hki ((nth f.Nodes a).Kids.length - 1)
  have e5 := @kid_is f a hki ((nth f.Nodes a).Kids.length - 2)
  simp (maxSteps := 10000000) -implicitDefEqProofs +contextual (disch := omega) only [e_zNo, u_zNo, rr_zNo, hK, hs, he, hc, nodes, ints, strs, ups, Node.cells, Fn.cells, ↓XD, XU, ↓reduceIte, sevalprocAttr, ei_statement, ei_expression, ei_IsNaN, hl, ea1, ea2, ei_is, ei_kind]
  refine some_bool ?_
  simp only [Shape, Stmt, Expr, hK, hs, he, Bare, exprs_one, exprs_two, exprs_three, exprs_all f a hki (Int.le_refl 0), stats_all f a hki, Bool.and_eq_true, Bool.or_eq_true, Bool.not_eq_true', decide_eq_false_iff_not, decide_eq_true_eq, Int.reduceEq, false_and, and_false, false_or, or_false, true_and, and_true, Bool.false_eq_true, not_true, not_false_eq_true]
  clear hl ea1 ea2
  grind
theorem nk_1 (hK : (nth f.Nodes a).Kind = 1) : EP A n_zNo [.agg f.cells, .int .i64 a] = some (.bool (decide (Shape f.Nodes a))) := by
  have hs : isStat 1 := by simp only [isStat]; omega
  have he : ¬isExpr 1 := by simp only [isExpr]; omega
  have hki' : ∀ i : Int, 0 ≤ i → i < (nth f.Nodes a).Kids.length → 0 ≤ nth (nth f.Nodes a).Kids i ∧ nth (nth f.Nodes a).Kids i < f.Nodes.length := fun i i0 i1 => by have := hki i i0 i1; omega
  have ea1 := fun f0 p0 p1 p2 p3 p4 p5 q0 q1 q2 q3 q4 q5 q6 h0 h1 c hc => ei_all n_impl_expression isExpr ei_expression f0 f.Nodes (nth f.Nodes a).Kids p0 p1 p2 p3 p4 p5 q0 q1 q2 q3 q4 q5 q6 h0 h1 hk c hc hki'
  have ea2 := fun f0 p0 p1 p2 p3 p4 p5 q0 q1 q2 q3 q4 q5 q6 h0 h1 c hc => ei_all n_impl_statement isStat ei_statement f0 f.Nodes (nth f.Nodes a).Kids p0 p1 p2 p3 p4 p5 q0 q1 q2 q3 q4 q5 q6 h0 h1 hk c hc hki'
  have k0 := hki' 0
  have k1 := hki' 1
  have k2 := hki' 2
  have k3 := hki' 3
  have k4 := hki' ((nth f.Nodes a).Kids.length - 1)
  have k5 := hki' ((nth f.Nodes a).Kids.length - 2)
  have e0 := @kid_is f a hki 0
  have e1 := @kid_is f a hki 1
  have e2 := @kid_is f a hki 2
  have e3 := @kid_is f a hki 3
  have e4 := @kid_is f a hki ((nth f.Nodes a).Kids.length - 1)
  have e5 := @kid_is f a hki ((nth f.Nodes a).Kids.length - 2)
  simp (maxSteps := 10000000) -implicitDefEqProofs +contextual (disch := omega) only [e_zNo, u_zNo, rr_zNo, hK, hs, he, hc, nodes, ints, strs, ups, Node.cells, Fn.cells, ↓XD, XU, ↓reduceIte, sevalprocAttr, ei_statement, ei_expression, ei_IsNaN, hl, ea1, ea2, ei_is, ei_kind]
  refine some_bool ?_
  simp only [Shape, Stmt, Expr, hK, hs, he, Bare, exprs_one, exprs_two, exprs_three, exprs_all f a hki (Int.le_refl 0), stats_all f a hki, Bool.and_eq_true, Bool.or_eq_true, Bool.not_eq_true', decide_eq_false_iff_not, decide_eq_true_eq, Int.reduceEq, false_and, and_false, false_or, or_false, true_and, and_true, Bool.false_eq_true, not_true, not_false_eq_true]
  clear hl ea1 ea2
  grind
theorem nk_4 (hK : (nth f.Nodes a).Kind = 4) : EP A n_zNo [.agg f.cells, .int .i64 a] = some (.bool (decide (Shape f.Nodes a))) := by
  have hs : isStat 4 := by simp only [isStat]; omega
  have he : ¬isExpr 4 := by simp only [isExpr]; omega
  have hki' : ∀ i : Int, 0 ≤ i → i < (nth f.Nodes a).Kids.length → 0 ≤ nth (nth f.Nodes a).Kids i ∧ nth (nth f.Nodes a).Kids i < f.Nodes.length := fun i i0 i1 => by have := hki i i0 i1; omega
  have ea1 := fun f0 p0 p1 p2 p3 p4 p5 q0 q1 q2 q3 q4 q5 q6 h0 h1 c hc => ei_all n_impl_expression isExpr ei_expression f0 f.Nodes (nth f.Nodes a).Kids p0 p1 p2 p3 p4 p5 q0 q1 q2 q3 q4 q5 q6 h0 h1 hk c hc hki'
  have ea2 := fun f0 p0 p1 p2 p3 p4 p5 q0 q1 q2 q3 q4 q5 q6 h0 h1 c hc => ei_all n_impl_statement isStat ei_statement f0 f.Nodes (nth f.Nodes a).Kids p0 p1 p2 p3 p4 p5 q0 q1 q2 q3 q4 q5 q6 h0 h1 hk c hc hki'
  have k0 := hki' 0
  have k1 := hki' 1
  have k2 := hki' 2
  have k3 := hki' 3
  have k4 := hki' ((nth f.Nodes a).Kids.length - 1)
  have k5 := hki' ((nth f.Nodes a).Kids.length - 2)
  have e0 := @kid_is f a hki 0
  have e1 := @kid_is f a hki 1
  have e2 := @kid_is f a hki 2
  have e3 := @kid_is f a hki 3
  have e4 := @kid_is f a hki ((nth f.Nodes a).Kids.length - 1)
  have e5 := @kid_is f a hki ((nth f.Nodes a).Kids.length - 2)
  simp (maxSteps := 10000000) -implicitDefEqProofs +contextual (disch := omega) only [e_zNo, u_zNo, rr_zNo, hK, hs, he, hc, nodes, ints, strs, ups, Node.cells, Fn.cells, ↓XD, XU, ↓reduceIte, sevalprocAttr, ei_statement, ei_expression, ei_IsNaN, hl, ea1, ea2, ei_is, ei_kind]
  refine some_bool ?_
  simp only [Shape, Stmt, Expr, hK, hs, he, Bare, exprs_one, exprs_two, exprs_three, exprs_all f a hki (Int.le_refl 0), stats_all f a hki, Bool.and_eq_true, Bool.or_eq_true, Bool.not_eq_true', decide_eq_false_iff_not, decide_eq_true_eq, Int.reduceEq, false_and, and_false, false_or, or_false, true_and, and_true, Bool.false_eq_true, not_true, not_false_eq_true]
  clear hl ea1 ea2
  grind
theorem nk_5 (hK : (nth f.Nodes a).Kind = 5) : EP A n_zNo [.agg f.cells, .int .i64 a] = some (.bool (decide (Shape f.Nodes a))) := by
  have hs : isStat 5 := by simp only [isStat]; omega
  have he : ¬isExpr 5 := by simp only [isExpr]; omega
  have hki' : ∀ i : Int, 0 ≤ i → i < (nth f.Nodes a).Kids.length → 0 ≤ nth (nth f.Nodes a).Kids i ∧ nth (nth f.Nodes a).Kids i < f.Nodes.length := fun i i0 i1 => by have := hki i i0 i1; omega
  have ea1 := fun f0 p0 p1 p2 p3 p4 p5 q0 q1 q2 q3 q4 q5 q6 h0 h1 c hc => ei_all n_impl_expression isExpr ei_expression f0 f.Nodes (nth f.Nodes a).Kids p0 p1 p2 p3 p4 p5 q0 q1 q2 q3 q4 q5 q6 h0 h1 hk c hc hki'
  have ea2 := fun f0 p0 p1 p2 p3 p4 p5 q0 q1 q2 q3 q4 q5 q6 h0 h1 c hc => ei_all n_impl_statement isStat ei_statement f0 f.Nodes (nth f.Nodes a).Kids p0 p1 p2 p3 p4 p5 q0 q1 q2 q3 q4 q5 q6 h0 h1 hk c hc hki'
  have k0 := hki' 0
  have k1 := hki' 1
  have k2 := hki' 2
  have k3 := hki' 3
  have k4 := hki' ((nth f.Nodes a).Kids.length - 1)
  have k5 := hki' ((nth f.Nodes a).Kids.length - 2)
  have e0 := @kid_is f a hki 0
  have e1 := @kid_is f a hki 1
  have e2 := @kid_is f a hki 2
  have e3 := @kid_is f a hki 3
  have e4 := @kid_is f a hki ((nth f.Nodes a).Kids.length - 1)
  have e5 := @kid_is f a hki ((nth f.Nodes a).Kids.length - 2)
  simp (maxSteps := 10000000) -implicitDefEqProofs +contextual (disch := omega) only [e_zNo, u_zNo, rr_zNo, hK, hs, he, hc, nodes, ints, strs, ups, Node.cells, Fn.cells, ↓XD, XU, ↓reduceIte, sevalprocAttr, ei_statement, ei_expression, ei_IsNaN, hl, ea1, ea2, ei_is, ei_kind]
  refine some_bool ?_
  simp only [Shape, Stmt, Expr, hK, hs, he, Bare, exprs_one, exprs_two, exprs_three, exprs_all f a hki (Int.le_refl 0), stats_all f a hki, Bool.and_eq_true, Bool.or_eq_true, Bool.not_eq_true', decide_eq_false_iff_not, decide_eq_true_eq, Int.reduceEq, false_and, and_false, false_or, or_false, true_and, and_true, Bool.false_eq_true, not_true, not_false_eq_true]
  clear hl ea1 ea2
  grind
theorem nk_6 (hK : (nth f.Nodes a).Kind = 6) : EP A n_zNo [.agg f.cells, .int .i64 a] = some (.bool (decide (Shape f.Nodes a))) := by
  have hs : isStat 6 := by simp only [isStat]; omega
  have he : ¬isExpr 6 := by simp only [isExpr]; omega
  have hki' : ∀ i : Int, 0 ≤ i → i < (nth f.Nodes a).Kids.length → 0 ≤ nth (nth f.Nodes a).Kids i ∧ nth (nth f.Nodes a).Kids i < f.Nodes.length := fun i i0 i1 => by have := hki i i0 i1; omega
  have ea1 := fun f0 p0 p1 p2 p3 p4 p5 q0 q1 q2 q3 q4 q5 q6 h0 h1 c hc => ei_all n_impl_expression isExpr ei_expression f0 f.Nodes (nth f.Nodes a).Kids p0 p1 p2 p3 p4 p5 q0 q1 q2 q3 q4 q5 q6 h0 h1 hk c hc hki'
  have ea2 := fun f0 p0 p1 p2 p3 p4 p5 q0 q1 q2 q3 q4 q5 q6 h0 h1 c hc => ei_all n_impl_statement isStat ei_statement f0 f.Nodes (nth f.Nodes a).Kids p0 p1 p2 p3 p4 p5 q0 q1 q2 q3 q4 q5 q6 h0 h1 hk c hc hki'
  have k0 := hki' 0
  have k1 := hki' 1
  have k2 := hki' 2
  have k3 := hki' 3
  have k4 := hki' ((nth f.Nodes a).Kids.length - 1)
  have k5 := hki' ((nth f.Nodes a).Kids.length - 2)
  have e0 := @kid_is f a hki 0
  have e1 := @kid_is f a hki 1
  have e2 := @kid_is f a hki 2
  have e3 := @kid_is f a hki 3
  have e4 := @kid_is f a hki ((nth f.Nodes a).Kids.length - 1)
  have e5 := @kid_is f a hki ((nth f.Nodes a).Kids.length - 2)
  simp (maxSteps := 10000000) -implicitDefEqProofs +contextual (disch := omega) only [e_zNo, u_zNo, rr_zNo, hK, hs, he, hc, nodes, ints, strs, ups, Node.cells, Fn.cells, ↓XD, XU, ↓reduceIte, sevalprocAttr, ei_statement, ei_expression, ei_IsNaN, hl, ea1, ea2, ei_is, ei_kind]
  refine some_bool ?_
  simp only [Shape, Stmt, Expr, hK, hs, he, Bare, exprs_one, exprs_two, exprs_three, exprs_all f a hki (Int.le_refl 0), stats_all f a hki, Bool.and_eq_true, Bool.or_eq_true, Bool.not_eq_true', decide_eq_false_iff_not, decide_eq_true_eq, Int.reduceEq, false_and, and_false, false_or, or_false, true_and, and_true, Bool.false_eq_true, not_true, not_false_eq_true]
  clear hl ea1 ea2
  grind
theorem nk_7 (hK : (nth f.Nodes a).Kind = 7) : EP A n_zNo [.agg f.cells, .int .i64 a] = some (.bool (decide (Shape f.Nodes a))) := by
  have hs : isStat 7 := by simp only [isStat]; omega
  have he : ¬isExpr 7 := by simp only [isExpr]; omega
  have hki' : ∀ i : Int, 0 ≤ i → i < (nth f.Nodes a).Kids.length → 0 ≤ nth (nth f.Nodes a).Kids i ∧ nth (nth f.Nodes a).Kids i < f.Nodes.length := fun i i0 i1 => by have := hki i i0 i1; omega
  have ea1 := fun f0 p0 p1 p2 p3 p4 p5 q0 q1 q2 q3 q4 q5 q6 h0 h1 c hc => ei_all n_impl_expression isExpr ei_expression f0 f.Nodes (nth f.Nodes a).Kids p0 p1 p2 p3 p4 p5 q0 q1 q2 q3 q4 q5 q6 h0 h1 hk c hc hki'
  have ea2 := fun f0 p0 p1 p2 p3 p4 p5 q0 q1 q2 q3 q4 q5 q6 h0 h1 c hc => ei_all n_impl_statement isStat ei_statement f0 f.Nodes (nth f.Nodes a).Kids p0 p1 p2 p3 p4 p5 q0 q1 q2 q3 q4 q5 q6 h0 h1 hk c hc hki'
  have k0 := hki' 0
  have k1 := hki' 1
  have k2 := hki' 2
  have k3 := hki' 3
  have k4 := hki' ((nth f.Nodes a).Kids.length - 1)
  have k5 := hki' ((nth f.Nodes a).Kids.length - 2)
  have e0 := @kid_is f a hki 0
  have e1 := @kid_is f a hki 1
  have e2 := @kid_is f a hki 2
  have e3 := @kid_is f a hki 3
  have e4 := @kid_is f a hki ((nth f.Nodes a).Kids.length - 1)
  have e5 := @kid_is f a hki ((nth f.Nodes a).Kids.length - 2)
  simp (maxSteps := 10000000) -implicitDefEqProofs +contextual (disch := omega) only [e_zNo, u_zNo, rr_zNo, hK, hs, he, hc, nodes, ints, strs, ups, Node.cells, Fn.cells, ↓XD, XU, ↓reduceIte, sevalprocAttr, ei_statement, ei_expression, ei_IsNaN, hl, ea1, ea2, ei_is, ei_kind]
  refine some_bool ?_
  simp only [Shape, Stmt, Expr, hK, hs, he, Bare, exprs_one, exprs_two, exprs_three, exprs_all f a hki (Int.le_refl 0), stats_all f a hki, Bool.and_eq_true, Bool.or_eq_true, Bool.not_eq_true', decide_eq_false_iff_not, decide_eq_true_eq, Int.reduceEq, false_and, and_false, false_or, or_false, true_and, and_true, Bool.false_eq_true, not_true, not_false_eq_true]
  clear hl ea1 ea2
  grind
theorem nk_8 (hK : (nth f.Nodes a).Kind = 8) : EP A n_zNo [.agg f.cells, .int .i64 a] = some (.bool (decide (Shape f.Nodes a))) := by
  have hs : isStat 8 := by simp only [isStat]; omega
  have he : ¬isExpr 8 := by simp only [isExpr]; omega
  have hki' : ∀ i : Int, 0 ≤ i → i < (nth f.Nodes a).Kids.length → 0 ≤ nth (nth f.Nodes a).Kids i ∧ nth (nth f.Nodes a).Kids i < f.Nodes.length := fun i i0 i1 => by have := hki i i0 i1; omega
  have ea1 := fun f0 p0 p1 p2 p3 p4 p5 q0 q1 q2 q3 q4 q5 q6 h0 h1 c hc => ei_all n_impl_expression isExpr ei_expression f0 f.Nodes (nth f.Nodes a).Kids p0 p1 p2 p3 p4 p5 q0 q1 q2 q3 q4 q5 q6 h0 h1 hk c hc hki'
  have ea2 := fun f0 p0 p1 p2 p3 p4 p5 q0 q1 q2 q3 q4 q5 q6 h0 h1 c hc => ei_all n_impl_statement isStat ei_statement f0 f.Nodes (nth f.Nodes a).Kids p0 p1 p2 p3 p4 p5 q0 q1 q2 q3 q4 q5 q6 h0 h1 hk c hc hki'
  have k0 := hki' 0
  have k1 := hki' 1
  have k2 := hki' 2
  have k3 := hki' 3
  have k4 := hki' ((nth f.Nodes a).Kids.length - 1)
  have k5 := hki' ((nth f.Nodes a).Kids.length - 2)
  have e0 := @kid_is f a hki 0
  have e1 := @kid_is f a hki 1
  have e2 := @kid_is f a hki 2
  have e3 := @kid_is f a hki 3
  have e4 := @kid_is f a hki ((nth f.Nodes a).Kids.length - 1)
  have e5 := @kid_is f a hki ((nth f.Nodes a).Kids.length - 2)
  simp (maxSteps := 10000000) -implicitDefEqProofs +contextual (disch := omega) only [e_zNo, u_zNo, rr_zNo, hK, hs, he, hc, nodes, ints, strs, ups, Node.cells, Fn.cells, ↓XD, XU, ↓reduceIte, sevalprocAttr, ei_statement, ei_expression, ei_IsNaN, hl, ea1, ea2, ei_is, ei_kind]
  refine some_bool ?_
  simp only [Shape, Stmt, Expr, hK, hs, he, Bare, exprs_one, exprs_two, exprs_three, exprs_all f a hki (Int.le_refl 0), stats_all f a hki, Bool.and_eq_true, Bool.or_eq_true, Bool.not_eq_true', decide_eq_false_iff_not, decide_eq_true_eq, Int.reduceEq, false_and, and_false, false_or, or_false, true_and, and_true, Bool.false_eq_true, not_true, not_false_eq_true]
  clear hl ea1 ea2
  grind
theorem nk_9 (hK : (nth f.Nodes a).Kind = 9) : EP A n_zNo [.agg f.cells, .int .i64 a] = some (.bool (decide (Shape f.Nodes a))) := by
  have hs : isStat 9 := by simp only [isStat]; omega
  have he : ¬isExpr 9 := by simp only [isExpr]; omega
  have hki' : ∀ i : Int, 0 ≤ i → i < (nth f.Nodes a).Kids.length → 0 ≤ nth (nth f.Nodes a).Kids i ∧ nth (nth f.Nodes a).Kids i < f.Nodes.length := fun i i0 i1 => by have := hki i i0 i1; omega
  have ea1 := fun f0 p0 p1 p2 p3 p4 p5 q0 q1 q2 q3 q4 q5 q6 h0 h1 c hc => ei_all n_impl_expression isExpr ei_expression f0 f.Nodes (nth f.Nodes a).Kids p0 p1 p2 p3 p4 p5 q0 q1 q2 q3 q4 q5 q6 h0 h1 hk c hc hki'
  have ea2 := fun f0 p0 p1 p2 p3 p4 p5 q0 q1 q2 q3 q4 q5 q6 h0 h1 c hc => ei_all n_impl_statement isStat ei_statement f0 f.Nodes (nth f.Nodes a).Kids p0 p1 p2 p3 p4 p5 q0 q1 q2 q3 q4 q5 q6 h0 h1 hk c hc hki'
  have k0 := hki' 0
  have k1 := hki' 1
  have k2 := hki' 2
  have k3 := hki' 3
  have k4 := hki' ((nth f.Nodes a).Kids.length - 1)
  have k5 := hki' ((nth f.Nodes a).Kids.length - 2)
  have e0 := @kid_is f a hki 0
  have e1 := @kid_is f a hki 1
  have e2 := @kid_is f a hki 2
  have e3 := @kid_is f a hki 3
  have e4 := @kid_is f a hki ((nth f.Nodes a).Kids.length - 1)
  have e5 := @kid_is f a hki ((nth f.Nodes a).Kids.length - 2)
  simp (maxSteps := 10000000) -implicitDefEqProofs +contextual (disch := omega) only [e_zNo, u_zNo, rr_zNo, hK, hs, he, hc, nodes, ints, strs, ups, Node.cells, Fn.cells, ↓XD, XU, ↓reduceIte, sevalprocAttr, ei_statement, ei_expression, ei_IsNaN, hl, ea1, ea2, ei_is, ei_kind]
  refine some_bool ?_
  simp only [Shape, Stmt, Expr, hK, hs, he, Bare, exprs_one, exprs_two, exprs_three, exprs_all f a hki (Int.le_refl 0), stats_all f a hki, Bool.and_eq_true, Bool.or_eq_true, Bool.not_eq_true', decide_eq_false_iff_not, decide_eq_true_eq, Int.reduceEq, false_and, and_false, false_or, or_false, true_and, and_true, Bool.false_eq_true, not_true, not_false_eq_true]
  clear hl ea1 ea2
  grind
theorem nk_10 (hK : (nth f.Nodes a).Kind = 10) : EP A n_zNo [.agg f.cells, .int .i64 a] = some (.bool (decide (Shape f.Nodes a))) := by
  have hs : isStat 10 := by simp only [isStat]; omega
  have he : ¬isExpr 10 := by simp only [isExpr]; omega
  have hki' : ∀ i : Int, 0 ≤ i → i < (nth f.Nodes a).Kids.length → 0 ≤ nth (nth f.Nodes a).Kids i ∧ nth (nth f.Nodes a).Kids i < f.Nodes.length := fun i i0 i1 => by have := hki i i0 i1; omega
  have ea1 := fun f0 p0 p1 p2 p3 p4 p5 q0 q1 q2 q3 q4 q5 q6 h0 h1 c hc => ei_all n_impl_expression isExpr ei_expression f0 f.Nodes (nth f.Nodes a).Kids p0 p1 p2 p3 p4 p5 q0 q1 q2 q3 q4 q5 q6 h0 h1 hk c hc hki'
  have ea2 := fun f0 p0 p1 p2 p3 p4 p5 q0 q1 q2 q3 q4 q5 q6 h0 h1 c hc => ei_all n_impl_statement isStat ei_statement f0 f.Nodes (nth f.Nodes a).Kids p0 p1 p2 p3 p4 p5 q0 q1 q2 q3 q4 q5 q6 h0 h1 hk c hc hki'
  have k0 := hki' 0
  have k1 := hki' 1
  have k2 := hki' 2
  have k3 := hki' 3
  have k4 := hki' ((nth f.Nodes a).Kids.length - 1)
  have k5 := hki' ((nth f.Nodes a).Kids.length - 2)
  have e0 := @kid_is f a hki 0
  have e1 := @kid_is f a hki 1
  have e2 := @kid_is f a hki 2
  have e3 := @kid_is f a hki 3
  have e4 := @kid_is f a hki ((nth f.Nodes a).Kids.length - 1)
  have e5 := @kid_is f a hki ((nth f.Nodes a).Kids.length - 2)
  simp (maxSteps := 10000000) -implicitDefEqProofs +contextual (disch := omega) only [e_zNo, u_zNo, rr_zNo, hK, hs, he, hc, nodes, ints, strs, ups, Node.cells, Fn.cells, ↓XD, XU, ↓reduceIte, sevalprocAttr, ei_statement, ei_expression, ei_IsNaN, hl, ea1, ea2, ei_is, ei_kind]
  refine some_bool ?_
  simp only [Shape, Stmt, Expr, hK, hs, he, Bare, exprs_one, exprs_two, exprs_three, exprs_all f a hki (Int.le_refl 0), stats_all f a hki, Bool.and_eq_true, Bool.or_eq_true, Bool.not_eq_true', decide_eq_false_iff_not, decide_eq_true_eq, Int.reduceEq, false_and, and_false, false_or, or_false, true_and, and_true, Bool.false_eq_true, not_true, not_false_eq_true]
  clear hl ea1 ea2
  grind
theorem nk_11 (hK : (nth f.Nodes a).Kind = 11) : EP A n_zNo [.agg f.cells, .int .i64 a] = some (.bool (decide (Shape f.Nodes a))) := by
  have hs : isStat 11 := by simp only [isStat]; omega
  have he : ¬isExpr 11 := by simp only [isExpr]; omega
  have hki' : ∀ i : Int, 0 ≤ i → i < (nth f.Nodes a).Kids.length → 0 ≤ nth (nth f.Nodes a).Kids i ∧ nth (nth f.Nodes a).Kids i < f.Nodes.length := fun i i0 i1 => by have := hki i i0 i1; omega
  have ea1 := fun f0 p0 p1 p2 p3 p4 p5 q0 q1 q2 q3 q4 q5 q6 h0 h1 c hc => ei_all n_impl_expression isExpr ei_expression f0 f.Nodes (nth f.Nodes a).Kids p0 p1 p2 p3 p4 p5 q0 q1 q2 q3 q4 q5 q6 h0 h1 hk c hc hki'
  have ea2 := fun f0 p0 p1 p2 p3 p4 p5 q0 q1 q2 q3 q4 q5 q6 h0 h1 c hc => ei_all n_impl_statement isStat ei_statement f0 f.Nodes (nth f.Nodes a).Kids p0 p1 p2 p3 p4 p5 q0 q1 q2 q3 q4 q5 q6 h0 h1 hk c hc hki'
  have k0 := hki' 0
  have k1 := hki' 1
  have k2 := hki' 2
  have k3 := hki' 3
  have k4 := hki' ((nth f.Nodes a).Kids.length - 1)
  have k5 := hki' ((nth f.Nodes a).Kids.length - 2)
  have e0 := @kid_is f a hki 0
  have e1 := @kid_is f a hki 1
  have e2 := @kid_is f a hki 2
  have e3 := @kid_is f a hki 3
  have e4 := @kid_is f a hki ((nth f.Nodes a).Kids.length - 1)
  have e5 := @kid_is f a hki ((nth f.Nodes a).Kids.length - 2)
  simp (maxSteps := 10000000) -implicitDefEqProofs +contextual (disch := omega) only [e_zNo, u_zNo, rr_zNo, hK, hs, he, hc, nodes, ints, strs, ups, Node.cells, Fn.cells, ↓XD, XU, ↓reduceIte, sevalprocAttr, ei_statement, ei_expression, ei_IsNaN, hl, ea1, ea2, ei_is, ei_kind]
  refine some_bool ?_
  simp only [Shape, Stmt, Expr, hK, hs, he, Bare, exprs_one, exprs_two, exprs_three, exprs_all f a hki (Int.le_refl 0), stats_all f a hki, Bool.and_eq_true, Bool.or_eq_true, Bool.not_eq_true', decide_eq_false_iff_not, decide_eq_true_eq, Int.reduceEq, false_and, and_false, false_or, or_false, true_and, and_true, Bool.false_eq_true, not_true, not_false_eq_true]
  clear hl ea1 ea2
  grind
theorem nk_12 (hK : (nth f.Nodes a).Kind = 12) : EP A n_zNo [.agg f.cells, .int .i64 a] = some (.bool (decide (Shape f.Nodes a))) := by
  have hs : isStat 12 := by simp only [isStat]; omega
  have he : ¬isExpr 12 := by simp only [isExpr]; omega
  have hki' : ∀ i : Int, 0 ≤ i → i < (nth f.Nodes a).Kids.length → 0 ≤ nth (nth f.Nodes a).Kids i ∧ nth (nth f.Nodes a).Kids i < f.Nodes.length := fun i i0 i1 => by have := hki i i0 i1; omega
  have ea1 := fun f0 p0 p1 p2 p3 p4 p5 q0 q1 q2 q3 q4 q5 q6 h0 h1 c hc => ei_all n_impl_expression isExpr ei_expression f0 f.Nodes (nth f.Nodes a).Kids p0 p1 p2 p3 p4 p5 q0 q1 q2 q3 q4 q5 q6 h0 h1 hk c hc hki'
  have ea2 := fun f0 p0 p1 p2 p3 p4 p5 q0 q1 q2 q3 q4 q5 q6 h0 h1 c hc => ei_all n_impl_statement isStat ei_statement f0 f.Nodes (nth f.Nodes a).Kids p0 p1 p2 p3 p4 p5 q0 q1 q2 q3 q4 q5 q6 h0 h1 hk c hc hki'
  have k0 := hki' 0
  have k1 := hki' 1
  have k2 := hki' 2
  have k3 := hki' 3
  have k4 := hki' ((nth f.Nodes a).Kids.length - 1)
  have k5 := hki' ((nth f.Nodes a).Kids.length - 2)
  have e0 := @kid_is f a hki 0
  have e1 := @kid_is f a hki 1
  have e2 := @kid_is f a hki 2
  have e3 := @kid_is f a hki 3
  have e4 := @kid_is f a hki ((nth f.Nodes a).Kids.length - 1)
  have e5 := @kid_is f a hki ((nth f.Nodes a).Kids.length - 2)
  simp (maxSteps := 10000000) -implicitDefEqProofs +contextual (disch := omega) only [e_zNo, u_zNo, rr_zNo, hK, hs, he, hc, nodes, ints, strs, ups, Node.cells, Fn.cells, ↓XD, XU, ↓reduceIte, sevalprocAttr, ei_statement, ei_expression, ei_IsNaN, hl, ea1, ea2, ei_is, ei_kind]
  refine some_bool ?_
  simp only [Shape, Stmt, Expr, hK, hs, he, Bare, exprs_one, exprs_two, exprs_three, exprs_all f a hki (Int.le_refl 0), stats_all f a hki, Bool.and_eq_true, Bool.or_eq_true, Bool.not_eq_true', decide_eq_false_iff_not, decide_eq_true_eq, Int.reduceEq, false_and, and_false, false_or, or_false, true_and, and_true, Bool.false_eq_true, not_true, not_false_eq_true]
  clear hl ea1 ea2
  grind
theorem nk_13 (hK : (nth f.Nodes a).Kind = 13) : EP A n_zNo [.agg f.cells, .int .i64 a] = some (.bool (decide (Shape f.Nodes a))) := by
  have hs : isStat 13 := by simp only [isStat]; omega
  have he : ¬isExpr 13 := by simp only [isExpr]; omega
  have hki' : ∀ i : Int, 0 ≤ i → i < (nth f.Nodes a).Kids.length → 0 ≤ nth (nth f.Nodes a).Kids i ∧ nth (nth f.Nodes a).Kids i < f.Nodes.length := fun i i0 i1 => by have := hki i i0 i1; omega
  have ea1 := fun f0 p0 p1 p2 p3 p4 p5 q0 q1 q2 q3 q4 q5 q6 h0 h1 c hc => ei_all n_impl_expression isExpr ei_expression f0 f.Nodes (nth f.Nodes a).Kids p0 p1 p2 p3 p4 p5 q0 q1 q2 q3 q4 q5 q6 h0 h1 hk c hc hki'
  have ea2 := fun f0 p0 p1 p2 p3 p4 p5 q0 q1 q2 q3 q4 q5 q6 h0 h1 c hc => ei_all n_impl_statement isStat ei_statement f0 f.Nodes (nth f.Nodes a).Kids p0 p1 p2 p3 p4 p5 q0 q1 q2 q3 q4 q5 q6 h0 h1 hk c hc hki'
  have k0 := hki' 0
  have k1 := hki' 1
  have k2 := hki' 2
  have k3 := hki' 3
  have k4 := hki' ((nth f.Nodes a).Kids.length - 1)
  have k5 := hki' ((nth f.Nodes a).Kids.length - 2)
  have e0 := @kid_is f a hki 0
  have e1 := @kid_is f a hki 1
  have e2 := @kid_is f a hki 2
  have e3 := @kid_is f a hki 3
  have e4 := @kid_is f a hki ((nth f.Nodes a).Kids.length - 1)
  have e5 := @kid_is f a hki ((nth f.Nodes a).Kids.length - 2)
  simp (maxSteps := 10000000) -implicitDefEqProofs +contextual (disch := omega) only [e_zNo, u_zNo, rr_zNo, hK, hs, he, hc, nodes, ints, strs, ups, Node.cells, Fn.cells, ↓XD, XU, ↓reduceIte, sevalprocAttr, ei_statement, ei_expression, ei_IsNaN, hl, ea1, ea2, ei_is, ei_kind]
  refine some_bool ?_
  simp only [Shape, Stmt, Expr, hK, hs, he, Bare, exprs_one, exprs_two, exprs_three, exprs_all f a hki (Int.le_refl 0), stats_all f a hki, Bool.and_eq_true, Bool.or_eq_true, Bool.not_eq_true', decide_eq_false_iff_not, decide_eq_true_eq, Int.reduceEq, false_and, and_false, false_or, or_false, true_and, and_true, Bool.false_eq_true, not_true, not_false_eq_true]
  clear hl ea1 ea2
  grind
theorem nk_14 (hK : (nth f.Nodes a).Kind = 14) : EP A n_zNo [.agg f.cells, .int .i64 a] = some (.bool (decide (Shape f.Nodes a))) := by
  have hs : isStat 14 := by simp only [isStat]; omega
  have he : ¬isExpr 14 := by simp only [isExpr]; omega
  have hki' : ∀ i : Int, 0 ≤ i → i < (nth f.Nodes a).Kids.length → 0 ≤ nth (nth f.Nodes a).Kids i ∧ nth (nth f.Nodes a).Kids i < f.Nodes.length := fun i i0 i1 => by have := hki i i0 i1; omega
  have ea1 := fun f0 p0 p1 p2 p3 p4 p5 q0 q1 q2 q3 q4 q5 q6 h0 h1 c hc => ei_all n_impl_expression isExpr ei_expression f0 f.Nodes (nth f.Nodes a).Kids p0 p1 p2 p3 p4 p5 q0 q1 q2 q3 q4 q5 q6 h0 h1 hk c hc hki'
  have ea2 := fun f0 p0 p1 p2 p3 p4 p5 q0 q1 q2 q3 q4 q5 q6 h0 h1 c hc => ei_all n_impl_statement isStat ei_statement f0 f.Nodes (nth f.Nodes a).Kids p0 p1 p2 p3 p4 p5 q0 q1 q2 q3 q4 q5 q6 h0 h1 hk c hc hki'
  have k0 := hki' 0
  have k1 := hki' 1
  have k2 := hki' 2
  have k3 := hki' 3
  have k4 := hki' ((nth f.Nodes a).Kids.length - 1)
  have k5 := hki' ((nth f.Nodes a).Kids.length - 2)
  have e0 := @kid_is f a hki 0
  have e1 := @kid_is f a hki 1
  have e2 := @kid_is f a hki 2
  have e3 := @kid_is f a hki 3
  have e4 := @kid_is f a hki ((nth f.Nodes a).Kids.length - 1)
  have e5 := @kid_is f a hki ((nth f.Nodes a).Kids.length - 2)
  simp (maxSteps := 10000000) -implicitDefEqProofs +contextual (disch := omega) only [e_zNo, u_zNo, rr_zNo, hK, hs, he, hc, nodes, ints, strs, ups, Node.cells, Fn.cells, ↓XD, XU, ↓reduceIte, sevalprocAttr, ei_statement, ei_expression, ei_IsNaN, hl, ea1, ea2, ei_is, ei_kind]
  refine some_bool ?_
  simp only [Shape, Stmt, Expr, hK, hs, he, Bare, exprs_one, exprs_two, exprs_three, exprs_all f a hki (Int.le_refl 0), stats_all f a hki, Bool.and_eq_true, Bool.or_eq_true, Bool.not_eq_true', decide_eq_false_iff_not, decide_eq_true_eq, Int.reduceEq, false_and, and_false, false_or, or_false, true_and, and_true, Bool.false_eq_true, not_true, not_false_eq_true]
  clear hl ea1 ea2
  grind
theorem nk_20 (hK : (nth f.Nodes a).Kind = 20) : EP A n_zNo [.agg f.cells, .int .i64 a] = some (.bool (decide (Shape f.Nodes a))) := by
  have hs : ¬isStat 20 := by simp only [isStat]; omega
  have he : isExpr 20 := by simp only [isExpr]; omega
  have hki' : ∀ i : Int, 0 ≤ i → i < (nth f.Nodes a).Kids.length → 0 ≤ nth (nth f.Nodes a).Kids i ∧ nth (nth f.Nodes a).Kids i < f.Nodes.length := fun i i0 i1 => by have := hki i i0 i1; omega
  have ea1 := fun f0 p0 p1 p2 p3 p4 p5 q0 q1 q2 q3 q4 q5 q6 h0 h1 c hc => ei_all n_impl_expression isExpr ei_expression f0 f.Nodes (nth f.Nodes a).Kids p0 p1 p2 p3 p4 p5 q0 q1 q2 q3 q4 q5 q6 h0 h1 hk c hc hki'
  have ea2 := fun f0 p0 p1 p2 p3 p4 p5 q0 q1 q2 q3 q4 q5 q6 h0 h1 c hc => ei_all n_impl_statement isStat ei_statement f0 f.Nodes (nth f.Nodes a).Kids p0 p1 p2 p3 p4 p5 q0 q1 q2 q3 q4 q5 q6 h0 h1 hk c hc hki'
  have k0 := hki' 0
  have k1 := hki' 1
  have k2 := hki' 2
  have k3 := hki' 3
  have k4 := hki' ((nth f.Nodes a).Kids.length - 1)
  have k5 := hki' ((nth f.Nodes a).Kids.length - 2)
  have e0 := @kid_is f a hki 0
  have e1 := @kid_is f a hki 1
  have e2 := @kid_is f a hki 2
  have e3 := @kid_is f a hki 3
  have e4 := @kid_is f a hki ((nth f.Nodes a).Kids.length - 1)
  have e5 := @kid_is f a hki ((nth f.Nodes a).Kids.length - 2)
  simp (maxSteps := 10000000) -implicitDefEqProofs +contextual (disch := omega) only [e_zNo, u_zNo, rr_zNo, hK, hs, he, hc, nodes, ints, strs, ups, Node.cells, Fn.cells, ↓XD, XU, ↓reduceIte, sevalprocAttr, ei_statement, ei_expression, ei_IsNaN, hl, ea1, ea2, ei_is, ei_kind]
  refine some_bool ?_
  simp only [Shape, Stmt, Expr, hK, hs, he, Bare, exprs_one, exprs_two, exprs_three, exprs_all f a hki (Int.le_refl 0), stats_all f a hki, Bool.and_eq_true, Bool.or_eq_true, Bool.not_eq_true', decide_eq_false_iff_not, decide_eq_true_eq, Int.reduceEq, false_and, and_false, false_or, or_false, true_and, and_true, Bool.false_eq_true, not_true, not_false_eq_true]
  clear hl ea1 ea2
  grind
theorem nk_21 (hK : (nth f.Nodes a).Kind = 21) : EP A n_zNo [.agg f.cells, .int .i64 a] = some (.bool (decide (Shape f.Nodes a))) := by
  have hs : ¬isStat 21 := by simp only [isStat]; omega
  have he : isExpr 21 := by simp only [isExpr]; omega
  have hki' : ∀ i : Int, 0 ≤ i → i < (nth f.Nodes a).Kids.length → 0 ≤ nth (nth f.Nodes a).Kids i ∧ nth (nth f.Nodes a).Kids i < f.Nodes.length := fun i i0 i1 => by have := hki i i0 i1; omega
  have ea1 := fun f0 p0 p1 p2 p3 p4 p5 q0 q1 q2 q3 q4 q5 q6 h0 h1 c hc => ei_all n_impl_expression isExpr ei_expression f0 f.Nodes (nth f.Nodes a).Kids p0 p1 p2 p3 p4 p5 q0 q1 q2 q3 q4 q5 q6 h0 h1 hk c hc hki'
  have ea2 := fun f0 p0 p1 p2 p3 p4 p5 q0 q1 q2 q3 q4 q5 q6 h0 h1 c hc => ei_all n_impl_statement isStat ei_statement f0 f.Nodes (nth f.Nodes a).Kids p0 p1 p2 p3 p4 p5 q0 q1 q2 q3 q4 q5 q6 h0 h1 hk c hc hki'
  have k0 := hki' 0
  have k1 := hki' 1
  have k2 := hki' 2
  have k3 := hki' 3
  have k4 := hki' ((nth f.Nodes a).Kids.length - 1)
  have k5 := hki' ((nth f.Nodes a).Kids.length - 2)
  have e0 := @kid_is f a hki 0
  have e1 := @kid_is f a hki 1
  have e2 := @kid_is f a hki 2
  have e3 := @kid_is f a hki 3
  have e4 := @kid_is f a hki ((nth f.Nodes a).Kids.length - 1)
  have e5 := @kid_is f a hki ((nth f.Nodes a).Kids.length - 2)
  simp (maxSteps := 10000000) -implicitDefEqProofs +contextual (disch := omega) only [e_zNo, u_zNo, rr_zNo, hK, hs, he, hc, nodes, ints, strs, ups, Node.cells, Fn.cells, ↓XD, XU, ↓reduceIte, sevalprocAttr, ei_statement, ei_expression, ei_IsNaN, hl, ea1, ea2, ei_is, ei_kind]
  refine some_bool ?_
  simp only [Shape, Stmt, Expr, hK, hs, he, Bare, exprs_one, exprs_two, exprs_three, exprs_all f a hki (Int.le_refl 0), stats_all f a hki, Bool.and_eq_true, Bool.or_eq_true, Bool.not_eq_true', decide_eq_false_iff_not, decide_eq_true_eq, Int.reduceEq, false_and, and_false, false_or, or_false, true_and, and_true, Bool.false_eq_true, not_true, not_false_eq_true]
  clear hl ea1 ea2
  grind
theorem nk_22 (hK : (nth f.Nodes a).Kind = 22) : EP A n_zNo [.agg f.cells, .int .i64 a] = some (.bool (decide (Shape f.Nodes a))) := by
  have hs : ¬isStat 22 := by simp only [isStat]; omega
  have he : isExpr 22 := by simp only [isExpr]; omega
  have hki' : ∀ i : Int, 0 ≤ i → i < (nth f.Nodes a).Kids.length → 0 ≤ nth (nth f.Nodes a).Kids i ∧ nth (nth f.Nodes a).Kids i < f.Nodes.length := fun i i0 i1 => by have := hki i i0 i1; omega
  have ea1 := fun f0 p0 p1 p2 p3 p4 p5 q0 q1 q2 q3 q4 q5 q6 h0 h1 c hc => ei_all n_impl_expression isExpr ei_expression f0 f.Nodes (nth f.Nodes a).Kids p0 p1 p2 p3 p4 p5 q0 q1 q2 q3 q4 q5 q6 h0 h1 hk c hc hki'
  have ea2 := fun f0 p0 p1 p2 p3 p4 p5 q0 q1 q2 q3 q4 q5 q6 h0 h1 c hc => ei_all n_impl_statement isStat ei_statement f0 f.Nodes (nth f.Nodes a).Kids p0 p1 p2 p3 p4 p5 q0 q1 q2 q3 q4 q5 q6 h0 h1 hk c hc hki'
  have k0 := hki' 0
  have k1 := hki' 1
  have k2 := hki' 2
  have k3 := hki' 3
  have k4 := hki' ((nth f.Nodes a).Kids.length - 1)
  have k5 := hki' ((nth f.Nodes a).Kids.length - 2)
  have e0 := @kid_is f a hki 0
  have e1 := @kid_is f a hki 1
  have e2 := @kid_is f a hki 2
  have e3 := @kid_is f a hki 3
  have e4 := @kid_is f a hki ((nth f.Nodes a).Kids.length - 1)
  have e5 := @kid_is f a hki ((nth f.Nodes a).Kids.length - 2)
  simp (maxSteps := 10000000) -implicitDefEqProofs +contextual (disch := omega) only [e_zNo, u_zNo, rr_zNo, hK, hs, he, hc, nodes, ints, strs, ups, Node.cells, Fn.cells, ↓XD, XU, ↓reduceIte, sevalprocAttr, ei_statement, ei_expression, ei_IsNaN, hl, ea1, ea2, ei_is, ei_kind]
  refine some_bool ?_
  simp only [Shape, Stmt, Expr, hK, hs, he, Bare, exprs_one, exprs_two, exprs_three, exprs_all f a hki (Int.le_refl 0), stats_all f a hki, Bool.and_eq_true, Bool.or_eq_true, Bool.not_eq_true', decide_eq_false_iff_not, decide_eq_true_eq, Int.reduceEq, false_and, and_false, false_or, or_false, true_and, and_true, Bool.false_eq_true, not_true, not_false_eq_true]
  clear hl ea1 ea2
  grind
theorem nk_23 (hK : (nth f.Nodes a).Kind = 23) : EP A n_zNo [.agg f.cells, .int .i64 a] = some (.bool (decide (Shape f.Nodes a))) := by
  have hs : ¬isStat 23 := by simp only [isStat]; omega
  have he : isExpr 23 := by simp only [isExpr]; omega
  have hki' : ∀ i : Int, 0 ≤ i → i < (nth f.Nodes a).Kids.length → 0 ≤ nth (nth f.Nodes a).Kids i ∧ nth (nth f.Nodes a).Kids i < f.Nodes.length := fun i i0 i1 => by have := hki i i0 i1; omega
  have ea1 := fun f0 p0 p1 p2 p3 p4 p5 q0 q1 q2 q3 q4 q5 q6 h0 h1 c hc => ei_all n_impl_expression isExpr ei_expression f0 f.Nodes (nth f.Nodes a).Kids p0 p1 p2 p3 p4 p5 q0 q1 q2 q3 q4 q5 q6 h0 h1 hk c hc hki'
  have ea2 := fun f0 p0 p1 p2 p3 p4 p5 q0 q1 q2 q3 q4 q5 q6 h0 h1 c hc => ei_all n_impl_statement isStat ei_statement f0 f.Nodes (nth f.Nodes a).Kids p0 p1 p2 p3 p4 p5 q0 q1 q2 q3 q4 q5 q6 h0 h1 hk c hc hki'
  have k0 := hki' 0
  have k1 := hki' 1
  have k2 := hki' 2
  have k3 := hki' 3
  have k4 := hki' ((nth f.Nodes a).Kids.length - 1)
  have k5 := hki' ((nth f.Nodes a).Kids.length - 2)
  have e0 := @kid_is f a hki 0
  have e1 := @kid_is f a hki 1
  have e2 := @kid_is f a hki 2
  have e3 := @kid_is f a hki 3
  have e4 := @kid_is f a hki ((nth f.Nodes a).Kids.length - 1)
  have e5 := @kid_is f a hki ((nth f.Nodes a).Kids.length - 2)
  simp (maxSteps := 10000000) -implicitDefEqProofs +contextual (disch := omega) only [e_zNo, u_zNo, rr_zNo, hK, hs, he, hc, nodes, ints, strs, ups, Node.cells, Fn.cells, ↓XD, XU, ↓reduceIte, sevalprocAttr, ei_statement, ei_expression, ei_IsNaN, hl, ea1, ea2, ei_is, ei_kind]
  refine some_bool ?_
  simp only [Shape, Stmt, Expr, hK, hs, he, Bare, exprs_one, exprs_two, exprs_three, exprs_all f a hki (Int.le_refl 0), stats_all f a hki, Bool.and_eq_true, Bool.or_eq_true, Bool.not_eq_true', decide_eq_false_iff_not, decide_eq_true_eq, Int.reduceEq, false_and, and_false, false_or, or_false, true_and, and_true, Bool.false_eq_true, not_true, not_false_eq_true]
  clear hl ea1 ea2
  grind
theorem nk_24 (hK : (nth f.Nodes a).Kind = 24) : EP A n_zNo [.agg f.cells, .int .i64 a] = some (.bool (decide (Shape f.Nodes a))) := by
  have hs : ¬isStat 24 := by simp only [isStat]; omega
  have he : isExpr 24 := by simp only [isExpr]; omega
  have hki' : ∀ i : Int, 0 ≤ i → i < (nth f.Nodes a).Kids.length → 0 ≤ nth (nth f.Nodes a).Kids i ∧ nth (nth f.Nodes a).Kids i < f.Nodes.length := fun i i0 i1 => by have := hki i i0 i1; omega
  have ea1 := fun f0 p0 p1 p2 p3 p4 p5 q0 q1 q2 q3 q4 q5 q6 h0 h1 c hc => ei_all n_impl_expression isExpr ei_expression f0 f.Nodes (nth f.Nodes a).Kids p0 p1 p2 p3 p4 p5 q0 q1 q2 q3 q4 q5 q6 h0 h1 hk c hc hki'
  have ea2 := fun f0 p0 p1 p2 p3 p4 p5 q0 q1 q2 q3 q4 q5 q6 h0 h1 c hc => ei_all n_impl_statement isStat ei_statement f0 f.Nodes (nth f.Nodes a).Kids p0 p1 p2 p3 p4 p5 q0 q1 q2 q3 q4 q5 q6 h0 h1 hk c hc hki'
  have k0 := hki' 0
  have k1 := hki' 1
  have k2 := hki' 2
  have k3 := hki' 3
  have k4 := hki' ((nth f.Nodes a).Kids.length - 1)
  have k5 := hki' ((nth f.Nodes a).Kids.length - 2)
  have e0 := @kid_is f a hki 0
  have e1 := @kid_is f a hki 1
  have e2 := @kid_is f a hki 2
  have e3 := @kid_is f a hki 3
  have e4 := @kid_is f a hki ((nth f.Nodes a).Kids.length - 1)
  have e5 := @kid_is f a hki ((nth f.Nodes a).Kids.length - 2)
  simp (maxSteps := 10000000) -implicitDefEqProofs +contextual (disch := omega) only [e_zNo, u_zNo, rr_zNo, hK, hs, he, hc, nodes, ints, strs, ups, Node.cells, Fn.cells, ↓XD, XU, ↓reduceIte, sevalprocAttr, ei_statement, ei_expression, ei_IsNaN, hl, ea1, ea2, ei_is, ei_kind]
  refine some_bool ?_
  simp only [Shape, Stmt, Expr, hK, hs, he, Bare, exprs_one, exprs_two, exprs_three, exprs_all f a hki (Int.le_refl 0), stats_all f a hki, Bool.and_eq_true, Bool.or_eq_true, Bool.not_eq_true', decide_eq_false_iff_not, decide_eq_true_eq, Int.reduceEq, false_and, and_false, false_or, or_false, true_and, and_true, Bool.false_eq_true, not_true, not_false_eq_true]
  clear hl ea1 ea2
  grind
theorem nk_25 (hK : (nth f.Nodes a).Kind = 25) : EP A n_zNo [.agg f.cells, .int .i64 a] = some (.bool (decide (Shape f.Nodes a))) := by
  have hs : ¬isStat 25 := by simp only [isStat]; omega
  have he : isExpr 25 := by simp only [isExpr]; omega
  have hki' : ∀ i : Int, 0 ≤ i → i < (nth f.Nodes a).Kids.length → 0 ≤ nth (nth f.Nodes a).Kids i ∧ nth (nth f.Nodes a).Kids i < f.Nodes.length := fun i i0 i1 => by have := hki i i0 i1; omega
  have ea1 := fun f0 p0 p1 p2 p3 p4 p5 q0 q1 q2 q3 q4 q5 q6 h0 h1 c hc => ei_all n_impl_expression isExpr ei_expression f0 f.Nodes (nth f.Nodes a).Kids p0 p1 p2 p3 p4 p5 q0 q1 q2 q3 q4 q5 q6 h0 h1 hk c hc hki'
  have ea2 := fun f0 p0 p1 p2 p3 p4 p5 q0 q1 q2 q3 q4 q5 q6 h0 h1 c hc => ei_all n_impl_statement isStat ei_statement f0 f.Nodes (nth f.Nodes a).Kids p0 p1 p2 p3 p4 p5 q0 q1 q2 q3 q4 q5 q6 h0 h1 hk c hc hki'
  have k0 := hki' 0
  have k1 := hki' 1
  have k2 := hki' 2
  have k3 := hki' 3
  have k4 := hki' ((nth f.Nodes a).Kids.length - 1)
  have k5 := hki' ((nth f.Nodes a).Kids.length - 2)
  have e0 := @kid_is f a hki 0
  have e1 := @kid_is f a hki 1
  have e2 := @kid_is f a hki 2
  have e3 := @kid_is f a hki 3
  have e4 := @kid_is f a hki ((nth f.Nodes a).Kids.length - 1)
  have e5 := @kid_is f a hki ((nth f.Nodes a).Kids.length - 2)
  simp (maxSteps := 10000000) -implicitDefEqProofs +contextual (disch := omega) only [e_zNo, u_zNo, rr_zNo, hK, hs, he, hc, nodes, ints, strs, ups, Node.cells, Fn.cells, ↓XD, XU, ↓reduceIte, sevalprocAttr, ei_statement, ei_expression, ei_IsNaN, hl, ea1, ea2, ei_is, ei_kind]
  refine some_bool ?_
  simp only [Shape, Stmt, Expr, hK, hs, he, Bare, exprs_one, exprs_two, exprs_three, exprs_all f a hki (Int.le_refl 0), stats_all f a hki, Bool.and_eq_true, Bool.or_eq_true, Bool.not_eq_true', decide_eq_false_iff_not, decide_eq_true_eq, Int.reduceEq, false_and, and_false, false_or, or_false, true_and, and_true, Bool.false_eq_true, not_true, not_false_eq_true]
  clear hl ea1 ea2
  grind
theorem nk_26 (hK : (nth f.Nodes a).Kind = 26) : EP A n_zNo [.agg f.cells, .int .i64 a] = some (.bool (decide (Shape f.Nodes a))) := by
  have hs : ¬isStat 26 := by simp only [isStat]; omega
  have he : isExpr 26 := by simp only [isExpr]; omega
  have hki' : ∀ i : Int, 0 ≤ i → i < (nth f.Nodes a).Kids.length → 0 ≤ nth (nth f.Nodes a).Kids i ∧ nth (nth f.Nodes a).Kids i < f.Nodes.length := fun i i0 i1 => by have := hki i i0 i1; omega
  have ea1 := fun f0 p0 p1 p2 p3 p4 p5 q0 q1 q2 q3 q4 q5 q6 h0 h1 c hc => ei_all n_impl_expression isExpr ei_expression f0 f.Nodes (nth f.Nodes a).Kids p0 p1 p2 p3 p4 p5 q0 q1 q2 q3 q4 q5 q6 h0 h1 hk c hc hki'
  have ea2 := fun f0 p0 p1 p2 p3 p4 p5 q0 q1 q2 q3 q4 q5 q6 h0 h1 c hc => ei_all n_impl_statement isStat ei_statement f0 f.Nodes (nth f.Nodes a).Kids p0 p1 p2 p3 p4 p5 q0 q1 q2 q3 q4 q5 q6 h0 h1 hk c hc hki'
  have k0 := hki' 0
  have k1 := hki' 1
  have k2 := hki' 2
  have k3 := hki' 3
  have k4 := hki' ((nth f.Nodes a).Kids.length - 1)
  have k5 := hki' ((nth f.Nodes a).Kids.length - 2)
  have e0 := @kid_is f a hki 0
  have e1 := @kid_is f a hki 1
  have e2 := @kid_is f a hki 2
  have e3 := @kid_is f a hki 3
  have e4 := @kid_is f a hki ((nth f.Nodes a).Kids.length - 1)
  have e5 := @kid_is f a hki ((nth f.Nodes a).Kids.length - 2)
  simp (maxSteps := 10000000) -implicitDefEqProofs +contextual (disch := omega) only [e_zNo, u_zNo, rr_zNo, hK, hs, he, hc, nodes, ints, strs, ups, Node.cells, Fn.cells, ↓XD, XU, ↓reduceIte, sevalprocAttr, ei_statement, ei_expression, ei_IsNaN, hl, ea1, ea2, ei_is, ei_kind]
  refine some_bool ?_
  simp only [Shape, Stmt, Expr, hK, hs, he, Bare, exprs_one, exprs_two, exprs_three, exprs_all f a hki (Int.le_refl 0), stats_all f a hki, Bool.and_eq_true, Bool.or_eq_true, Bool.not_eq_true', decide_eq_false_iff_not, decide_eq_true_eq, Int.reduceEq, false_and, and_false, false_or, or_false, true_and, and_true, Bool.false_eq_true, not_true, not_false_eq_true]
  clear hl ea1 ea2
  grind
theorem nk_27 (hK : (nth f.Nodes a).Kind = 27) : EP A n_zNo [.agg f.cells, .int .i64 a] = some (.bool (decide (Shape f.Nodes a))) := by
  have hs : ¬isStat 27 := by simp only [isStat]; omega
  have he : isExpr 27 := by simp only [isExpr]; omega
  have hki' : ∀ i : Int, 0 ≤ i → i < (nth f.Nodes a).Kids.length → 0 ≤ nth (nth f.Nodes a).Kids i ∧ nth (nth f.Nodes a).Kids i < f.Nodes.length := fun i i0 i1 => by have := hki i i0 i1; omega
  have ea1 := fun f0 p0 p1 p2 p3 p4 p5 q0 q1 q2 q3 q4 q5 q6 h0 h1 c hc => ei_all n_impl_expression isExpr ei_expression f0 f.Nodes (nth f.Nodes a).Kids p0 p1 p2 p3 p4 p5 q0 q1 q2 q3 q4 q5 q6 h0 h1 hk c hc hki'
  have ea2 := fun f0 p0 p1 p2 p3 p4 p5 q0 q1 q2 q3 q4 q5 q6 h0 h1 c hc => ei_all n_impl_statement isStat ei_statement f0 f.Nodes (nth f.Nodes a).Kids p0 p1 p2 p3 p4 p5 q0 q1 q2 q3 q4 q5 q6 h0 h1 hk c hc hki'
  have k0 := hki' 0
  have k1 := hki' 1
  have k2 := hki' 2
  have k3 := hki' 3
  have k4 := hki' ((nth f.Nodes a).Kids.length - 1)
  have k5 := hki' ((nth f.Nodes a).Kids.length - 2)
  have e0 := @kid_is f a hki 0
  have e1 := @kid_is f a hki 1
  have e2 := @kid_is f a hki 2
  have e3 := @kid_is f a hki 3
  have e4 := @kid_is f a hki ((nth f.Nodes a).Kids.length - 1)
  have e5 := @kid_is f a hki ((nth f.Nodes a).Kids.length - 2)
  simp (maxSteps := 10000000) -implicitDefEqProofs +contextual (disch := omega) only [e_zNo, u_zNo, rr_zNo, hK, hs, he, hc, nodes, ints, strs, ups, Node.cells, Fn.cells, ↓XD, XU, ↓reduceIte, sevalprocAttr, ei_statement, ei_expression, ei_IsNaN, hl, ea1, ea2, ei_is, ei_kind]
  refine some_bool ?_
  simp only [Shape, Stmt, Expr, hK, hs, he, Bare, exprs_one, exprs_two, exprs_three, exprs_all f a hki (Int.le_refl 0), stats_all f a hki, Bool.and_eq_true, Bool.or_eq_true, Bool.not_eq_true', decide_eq_false_iff_not, decide_eq_true_eq, Int.reduceEq, false_and, and_false, false_or, or_false, true_and, and_true, Bool.false_eq_true, not_true, not_false_eq_true]
  clear hl ea1 ea2
  grind
theorem nk_28 (hK : (nth f.Nodes a).Kind = 28) : EP A n_zNo [.agg f.cells, .int .i64 a] = some (.bool (decide (Shape f.Nodes a))) := by
  have hs : ¬isStat 28 := by simp only [isStat]; omega
  have he : isExpr 28 := by simp only [isExpr]; omega
  have hki' : ∀ i : Int, 0 ≤ i → i < (nth f.Nodes a).Kids.length → 0 ≤ nth (nth f.Nodes a).Kids i ∧ nth (nth f.Nodes a).Kids i < f.Nodes.length := fun i i0 i1 => by have := hki i i0 i1; omega
  have ea1 := fun f0 p0 p1 p2 p3 p4 p5 q0 q1 q2 q3 q4 q5 q6 h0 h1 c hc => ei_all n_impl_expression isExpr ei_expression f0 f.Nodes (nth f.Nodes a).Kids p0 p1 p2 p3 p4 p5 q0 q1 q2 q3 q4 q5 q6 h0 h1 hk c hc hki'
  have ea2 := fun f0 p0 p1 p2 p3 p4 p5 q0 q1 q2 q3 q4 q5 q6 h0 h1 c hc => ei_all n_impl_statement isStat ei_statement f0 f.Nodes (nth f.Nodes a).Kids p0 p1 p2 p3 p4 p5 q0 q1 q2 q3 q4 q5 q6 h0 h1 hk c hc hki'
  have k0 := hki' 0
  have k1 := hki' 1
  have k2 := hki' 2
  have k3 := hki' 3
  have k4 := hki' ((nth f.Nodes a).Kids.length - 1)
  have k5 := hki' ((nth f.Nodes a).Kids.length - 2)
  have e0 := @kid_is f a hki 0
  have e1 := @kid_is f a hki 1
  have e2 := @kid_is f a hki 2
  have e3 := @kid_is f a hki 3
  have e4 := @kid_is f a hki ((nth f.Nodes a).Kids.length - 1)
  have e5 := @kid_is f a hki ((nth f.Nodes a).Kids.length - 2)
  simp (maxSteps := 10000000) -implicitDefEqProofs +contextual (disch := omega) only [e_zNo, u_zNo, rr_zNo, hK, hs, he, hc, nodes, ints, strs, ups, Node.cells, Fn.cells, ↓XD, XU, ↓reduceIte, sevalprocAttr, ei_statement, ei_expression, ei_IsNaN, hl, ea1, ea2, ei_is, ei_kind]
  refine some_bool ?_
  simp only [Shape, Stmt, Expr, hK, hs, he, Bare, exprs_one, exprs_two, exprs_three, exprs_all f a hki (Int.le_refl 0), stats_all f a hki, Bool.and_eq_true, Bool.or_eq_true, Bool.not_eq_true', decide_eq_false_iff_not, decide_eq_true_eq, Int.reduceEq, false_and, and_false, false_or, or_false, true_and, and_true, Bool.false_eq_true, not_true, not_false_eq_true]
  clear hl ea1 ea2
  grind
theorem nk_29 (hK : (nth f.Nodes a).Kind = 29) : EP A n_zNo [.agg f.cells, .int .i64 a] = some (.bool (decide (Shape f.Nodes a))) := by
  have hs : ¬isStat 29 := by simp only [isStat]; omega
  have he : isExpr 29 := by simp only [isExpr]; omega
  have hki' : ∀ i : Int, 0 ≤ i → i < (nth f.Nodes a).Kids.length → 0 ≤ nth (nth f.Nodes a).Kids i ∧ nth (nth f.Nodes a).Kids i < f.Nodes.length := fun i i0 i1 => by have := hki i i0 i1; omega
  have ea1 := fun f0 p0 p1 p2 p3 p4 p5 q0 q1 q2 q3 q4 q5 q6 h0 h1 c hc => ei_all n_impl_expression isExpr ei_expression f0 f.Nodes (nth f.Nodes a).Kids p0 p1 p2 p3 p4 p5 q0 q1 q2 q3 q4 q5 q6 h0 h1 hk c hc hki'
  have ea2 := fun f0 p0 p1 p2 p3 p4 p5 q0 q1 q2 q3 q4 q5 q6 h0 h1 c hc => ei_all n_impl_statement isStat ei_statement f0 f.Nodes (nth f.Nodes a).Kids p0 p1 p2 p3 p4 p5 q0 q1 q2 q3 q4 q5 q6 h0 h1 hk c hc hki'
  have k0 := hki' 0
  have k1 := hki' 1
  have k2 := hki' 2
  have k3 := hki' 3
  have k4 := hki' ((nth f.Nodes a).Kids.length - 1)
  have k5 := hki' ((nth f.Nodes a).Kids.length - 2)
  have e0 := @kid_is f a hki 0
  have e1 := @kid_is f a hki 1
  have e2 := @kid_is f a hki 2
  have e3 := @kid_is f a hki 3
  have e4 := @kid_is f a hki ((nth f.Nodes a).Kids.length - 1)
  have e5 := @kid_is f a hki ((nth f.Nodes a).Kids.length - 2)
  simp (maxSteps := 10000000) -implicitDefEqProofs +contextual (disch := omega) only [e_zNo, u_zNo, rr_zNo, hK, hs, he, hc, nodes, ints, strs, ups, Node.cells, Fn.cells, ↓XD, XU, ↓reduceIte, sevalprocAttr, ei_statement, ei_expression, ei_IsNaN, hl, ea1, ea2, ei_is, ei_kind]
  have x2 : ((nth f.Nodes a).Kids.length : Int) = 2 → (Exprs f.Nodes a 0 2 ↔ IAll isExpr f.Nodes (nth f.Nodes a).Kids 0) := fun e => by rw [← exprs_all f a hki (Int.le_refl 0), e]
  refine some_bool ?_
  simp only [Shape, Stmt, Expr, hK, hs, he, Bare, exprs_all f a hki (Int.le_refl 0), stats_all f a hki, Bool.and_eq_true, Bool.or_eq_true, Bool.not_eq_true', decide_eq_false_iff_not, decide_eq_true_eq, Int.reduceEq, false_and, and_false, false_or, or_false, true_and, and_true, Bool.false_eq_true, not_true, not_false_eq_true]
  clear hl ea1 ea2
  grind
theorem nk_30 (hK : (nth f.Nodes a).Kind = 30) : EP A n_zNo [.agg f.cells, .int .i64 a] = some (.bool (decide (Shape f.Nodes a))) := by
  have hs : ¬isStat 30 := by simp only [isStat]; omega
  have he : isExpr 30 := by simp only [isExpr]; omega
  have hki' : ∀ i : Int, 0 ≤ i → i < (nth f.Nodes a).Kids.length → 0 ≤ nth (nth f.Nodes a).Kids i ∧ nth (nth f.Nodes a).Kids i < f.Nodes.length := fun i i0 i1 => by have := hki i i0 i1; omega
  have ea1 := fun f0 p0 p1 p2 p3 p4 p5 q0 q1 q2 q3 q4 q5 q6 h0 h1 c hc => ei_all n_impl_expression isExpr ei_expression f0 f.Nodes (nth f.Nodes a).Kids p0 p1 p2 p3 p4 p5 q0 q1 q2 q3 q4 q5 q6 h0 h1 hk c hc hki'
  have ea2 := fun f0 p0 p1 p2 p3 p4 p5 q0 q1 q2 q3 q4 q5 q6 h0 h1 c hc => ei_all n_impl_statement isStat ei_statement f0 f.Nodes (nth f.Nodes a).Kids p0 p1 p2 p3 p4 p5 q0 q1 q2 q3 q4 q5 q6 h0 h1 hk c hc hki'
  have k0 := hki' 0
  have k1 := hki' 1
  have k2 := hki' 2
  have k3 := hki' 3
  have k4 := hki' ((nth f.Nodes a).Kids.length - 1)
  have k5 := hki' ((nth f.Nodes a).Kids.length - 2)
  have e0 := @kid_is f a hki 0
  have e1 := @kid_is f a hki 1
  have e2 := @kid_is f a hki 2
  have e3 := @kid_is f a hki 3
  have e4 := @kid_is f a hki ((nth f.Nodes a).Kids.length - 1)
  have e5 := @kid_is f a hki ((nth f.Nodes a).Kids.length - 2)
  simp (maxSteps := 10000000) -implicitDefEqProofs +contextual (disch := omega) only [e_zNo, u_zNo, rr_zNo, hK, hs, he, hc, nodes, ints, strs, ups, Node.cells, Fn.cells, ↓XD, XU, ↓reduceIte, sevalprocAttr, ei_statement, ei_expression, ei_IsNaN, hl, ea1, ea2, ei_is, ei_kind]
  have x2 : ((nth f.Nodes a).Kids.length : Int) = 2 → (Exprs f.Nodes a 0 2 ↔ IAll isExpr f.Nodes (nth f.Nodes a).Kids 0) := fun e => by rw [← exprs_all f a hki (Int.le_refl 0), e]
  refine some_bool ?_
  simp only [Shape, Stmt, Expr, hK, hs, he, Bare, exprs_all f a hki (Int.le_refl 0), stats_all f a hki, Bool.and_eq_true, Bool.or_eq_true, Bool.not_eq_true', decide_eq_false_iff_not, decide_eq_true_eq, Int.reduceEq, false_and, and_false, false_or, or_false, true_and, and_true, Bool.false_eq_true, not_true, not_false_eq_true]
  clear hl ea1 ea2
  grind
theorem nk_31 (hK : (nth f.Nodes a).Kind = 31) : EP A n_zNo [.agg f.cells, .int .i64 a] = some (.bool (decide (Shape f.Nodes a))) := by
  have hs : ¬isStat 31 := by simp only [isStat]; omega
  have he : isExpr 31 := by simp only [isExpr]; omega
  have hki' : ∀ i : Int, 0 ≤ i → i < (nth f.Nodes a).Kids.length → 0 ≤ nth (nth f.Nodes a).Kids i ∧ nth (nth f.Nodes a).Kids i < f.Nodes.length := fun i i0 i1 => by have := hki i i0 i1; omega
  have ea1 := fun f0 p0 p1 p2 p3 p4 p5 q0 q1 q2 q3 q4 q5 q6 h0 h1 c hc => ei_all n_impl_expression isExpr ei_expression f0 f.Nodes (nth f.Nodes a).Kids p0 p1 p2 p3 p4 p5 q0 q1 q2 q3 q4 q5 q6 h0 h1 hk c hc hki'
  have ea2 := fun f0 p0 p1 p2 p3 p4 p5 q0 q1 q2 q3 q4 q5 q6 h0 h1 c hc => ei_all n_impl_statement isStat ei_statement f0 f.Nodes (nth f.Nodes a).Kids p0 p1 p2 p3 p4 p5 q0 q1 q2 q3 q4 q5 q6 h0 h1 hk c hc hki'
  have k0 := hki' 0
  have k1 := hki' 1
  have k2 := hki' 2
  have k3 := hki' 3
  have k4 := hki' ((nth f.Nodes a).Kids.length - 1)
  have k5 := hki' ((nth f.Nodes a).Kids.length - 2)
  have e0 := @kid_is f a hki 0
  have e1 := @kid_is f a hki 1
  have e2 := @kid_is f a hki 2
  have e3 := @kid_is f a hki 3
  have e4 := @kid_is f a hki ((nth f.Nodes a).Kids.length - 1)
  have e5 := @kid_is f a hki ((nth f.Nodes a).Kids.length - 2)
  simp (maxSteps := 10000000) -implicitDefEqProofs +contextual (disch := omega) only [e_zNo, u_zNo, rr_zNo, hK, hs, he, hc, nodes, ints, strs, ups, Node.cells, Fn.cells, ↓XD, XU, ↓reduceIte, sevalprocAttr, ei_statement, ei_expression, ei_IsNaN, hl, ea1, ea2, ei_is, ei_kind]
  have x2 : ((nth f.Nodes a).Kids.length : Int) = 1 → (Exprs f.Nodes a 0 1 ↔ IAll isExpr f.Nodes (nth f.Nodes a).Kids 0) := fun e => by rw [← exprs_all f a hki (Int.le_refl 0), e]
  refine some_bool ?_
  simp only [Shape, Stmt, Expr, hK, hs, he, Bare, exprs_all f a hki (Int.le_refl 0), stats_all f a hki, Bool.and_eq_true, Bool.or_eq_true, Bool.not_eq_true', decide_eq_false_iff_not, decide_eq_true_eq, Int.reduceEq, false_and, and_false, false_or, or_false, true_and, and_true, Bool.false_eq_true, not_true, not_false_eq_true]
  clear hl ea1 ea2
  grind
theorem nk_32 (hK : (nth f.Nodes a).Kind = 32) : EP A n_zNo [.agg f.cells, .int .i64 a] = some (.bool (decide (Shape f.Nodes a))) := by
  have hs : ¬isStat 32 := by simp only [isStat]; omega
  have he : isExpr 32 := by simp only [isExpr]; omega
  have hki' : ∀ i : Int, 0 ≤ i → i < (nth f.Nodes a).Kids.length → 0 ≤ nth (nth f.Nodes a).Kids i ∧ nth (nth f.Nodes a).Kids i < f.Nodes.length := fun i i0 i1 => by have := hki i i0 i1; omega
  have ea1 := fun f0 p0 p1 p2 p3 p4 p5 q0 q1 q2 q3 q4 q5 q6 h0 h1 c hc => ei_all n_impl_expression isExpr ei_expression f0 f.Nodes (nth f.Nodes a).Kids p0 p1 p2 p3 p4 p5 q0 q1 q2 q3 q4 q5 q6 h0 h1 hk c hc hki'
  have ea2 := fun f0 p0 p1 p2 p3 p4 p5 q0 q1 q2 q3 q4 q5 q6 h0 h1 c hc => ei_all n_impl_statement isStat ei_statement f0 f.Nodes (nth f.Nodes a).Kids p0 p1 p2 p3 p4 p5 q0 q1 q2 q3 q4 q5 q6 h0 h1 hk c hc hki'
  have k0 := hki' 0
  have k1 := hki' 1
  have k2 := hki' 2
  have k3 := hki' 3
  have k4 := hki' ((nth f.Nodes a).Kids.length - 1)
  have k5 := hki' ((nth f.Nodes a).Kids.length - 2)
  have e0 := @kid_is f a hki 0
  have e1 := @kid_is f a hki 1
  have e2 := @kid_is f a hki 2
  have e3 := @kid_is f a hki 3
  have e4 := @kid_is f a hki ((nth f.Nodes a).Kids.length - 1)
  have e5 := @kid_is f a hki ((nth f.Nodes a).Kids.length - 2)
  simp (maxSteps := 10000000) -implicitDefEqProofs +contextual (disch := omega) only [e_zNo, u_zNo, rr_zNo, hK, hs, he, hc, nodes, ints, strs, ups, Node.cells, Fn.cells, ↓XD, XU, ↓reduceIte, sevalprocAttr, ei_statement, ei_expression, ei_IsNaN, hl, ea1, ea2, ei_is, ei_kind]
  have x2 : ((nth f.Nodes a).Kids.length : Int) = 2 → (Exprs f.Nodes a 0 2 ↔ IAll isExpr f.Nodes (nth f.Nodes a).Kids 0) := fun e => by rw [← exprs_all f a hki (Int.le_refl 0), e]
  refine some_bool ?_
  simp only [Shape, Stmt, Expr, hK, hs, he, Bare, exprs_all f a hki (Int.le_refl 0), stats_all f a hki, Bool.and_eq_true, Bool.or_eq_true, Bool.not_eq_true', decide_eq_false_iff_not, decide_eq_true_eq, Int.reduceEq, false_and, and_false, false_or, or_false, true_and, and_true, Bool.false_eq_true, not_true, not_false_eq_true]
  clear hl ea1 ea2
  grind
theorem nk_33 (hK : (nth f.Nodes a).Kind = 33) : EP A n_zNo [.agg f.cells, .int .i64 a] = some (.bool (decide (Shape f.Nodes a))) := by
  have hs : ¬isStat 33 := by simp only [isStat]; omega
  have he : isExpr 33 := by simp only [isExpr]; omega
  have hki' : ∀ i : Int, 0 ≤ i → i < (nth f.Nodes a).Kids.length → 0 ≤ nth (nth f.Nodes a).Kids i ∧ nth (nth f.Nodes a).Kids i < f.Nodes.length := fun i i0 i1 => by have := hki i i0 i1; omega
  have ea1 := fun f0 p0 p1 p2 p3 p4 p5 q0 q1 q2 q3 q4 q5 q6 h0 h1 c hc => ei_all n_impl_expression isExpr ei_expression f0 f.Nodes (nth f.Nodes a).Kids p0 p1 p2 p3 p4 p5 q0 q1 q2 q3 q4 q5 q6 h0 h1 hk c hc hki'
  have ea2 := fun f0 p0 p1 p2 p3 p4 p5 q0 q1 q2 q3 q4 q5 q6 h0 h1 c hc => ei_all n_impl_statement isStat ei_statement f0 f.Nodes (nth f.Nodes a).Kids p0 p1 p2 p3 p4 p5 q0 q1 q2 q3 q4 q5 q6 h0 h1 hk c hc hki'
  have k0 := hki' 0
  have k1 := hki' 1
  have k2 := hki' 2
  have k3 := hki' 3
  have k4 := hki' ((nth f.Nodes a).Kids.length - 1)
  have k5 := hki' ((nth f.Nodes a).Kids.length - 2)
  have e0 := @kid_is f a hki 0
  have e1 := @kid_is f a hki 1
  have e2 := @kid_is f a hki 2
  have e3 := @kid_is f a hki 3
  have e4 := @kid_is f a hki ((nth f.Nodes a).Kids.length - 1)
  have e5 := @kid_is f a hki ((nth f.Nodes a).Kids.length - 2)
  simp (maxSteps := 10000000) -implicitDefEqProofs +contextual (disch := omega) only [e_zNo, u_zNo, rr_zNo, hK, hs, he, hc, nodes, ints, strs, ups, Node.cells, Fn.cells, ↓XD, XU, ↓reduceIte, sevalprocAttr, ei_statement, ei_expression, ei_IsNaN, hl, ea1, ea2, ei_is, ei_kind]
  have x2 : ((nth f.Nodes a).Kids.length : Int) = 2 → (Exprs f.Nodes a 0 2 ↔ IAll isExpr f.Nodes (nth f.Nodes a).Kids 0) := fun e => by rw [← exprs_all f a hki (Int.le_refl 0), e]
  refine some_bool ?_
  simp only [Shape, Stmt, Expr, hK, hs, he, Bare, exprs_all f a hki (Int.le_refl 0), stats_all f a hki, Bool.and_eq_true, Bool.or_eq_true, Bool.not_eq_true', decide_eq_false_iff_not, decide_eq_true_eq, Int.reduceEq, false_and, and_false, false_or, or_false, true_and, and_true, Bool.false_eq_true, not_true, not_false_eq_true]
  clear hl ea1 ea2
  grind
theorem nk_34 (hK : (nth f.Nodes a).Kind = 34) : EP A n_zNo [.agg f.cells, .int .i64 a] = some (.bool (decide (Shape f.Nodes a))) := by
  have hs : ¬isStat 34 := by simp only [isStat]; omega
  have he : isExpr 34 := by simp only [isExpr]; omega
  have hki' : ∀ i : Int, 0 ≤ i → i < (nth f.Nodes a).Kids.length → 0 ≤ nth (nth f.Nodes a).Kids i ∧ nth (nth f.Nodes a).Kids i < f.Nodes.length := fun i i0 i1 => by have := hki i i0 i1; omega
  have ea1 := fun f0 p0 p1 p2 p3 p4 p5 q0 q1 q2 q3 q4 q5 q6 h0 h1 c hc => ei_all n_impl_expression isExpr ei_expression f0 f.Nodes (nth f.Nodes a).Kids p0 p1 p2 p3 p4 p5 q0 q1 q2 q3 q4 q5 q6 h0 h1 hk c hc hki'
  have ea2 := fun f0 p0 p1 p2 p3 p4 p5 q0 q1 q2 q3 q4 q5 q6 h0 h1 c hc => ei_all n_impl_statement isStat ei_statement f0 f.Nodes (nth f.Nodes a).Kids p0 p1 p2 p3 p4 p5 q0 q1 q2 q3 q4 q5 q6 h0 h1 hk c hc hki'
  have k0 := hki' 0
  have k1 := hki' 1
  have k2 := hki' 2
  have k3 := hki' 3
  have k4 := hki' ((nth f.Nodes a).Kids.length - 1)
  have k5 := hki' ((nth f.Nodes a).Kids.length - 2)
  have e0 := @kid_is f a hki 0
  have e1 := @kid_is f a hki 1
  have e2 := @kid_is f a hki 2
  have e3 := @kid_is f a hki 3
  have e4 := @kid_is f a hki ((nth f.Nodes a).Kids.length - 1)
  have e5 := @kid_is f a hki ((nth f.Nodes a).Kids.length - 2)
  simp (maxSteps := 10000000) -implicitDefEqProofs +contextual (disch := omega) only [e_zNo, u_zNo, rr_zNo, hK, hs, he, hc, nodes, ints, strs, ups, Node.cells, Fn.cells, ↓XD, XU, ↓reduceIte, sevalprocAttr, ei_statement, ei_expression, ei_IsNaN, hl, ea1, ea2, ei_is, ei_kind]
  refine some_bool ?_
  simp only [Shape, Stmt, Expr, hK, hs, he, Bare, exprs_one, exprs_two, exprs_three, exprs_all f a hki (Int.le_refl 0), stats_all f a hki, Bool.and_eq_true, Bool.or_eq_true, Bool.not_eq_true', decide_eq_false_iff_not, decide_eq_true_eq, Int.reduceEq, false_and, and_false, false_or, or_false, true_and, and_true, Bool.false_eq_true, not_true, not_false_eq_true]
  clear hl ea1 ea2
  grind
theorem nk_35 (hK : (nth f.Nodes a).Kind = 35) : EP A n_zNo [.agg f.cells, .int .i64 a] = some (.bool (decide (Shape f.Nodes a))) := by
  have hs : ¬isStat 35 := by simp only [isStat]; omega
  have he : isExpr 35 := by simp only [isExpr]; omega
  have hki' : ∀ i : Int, 0 ≤ i → i < (nth f.Nodes a).Kids.length → 0 ≤ nth (nth f.Nodes a).Kids i ∧ nth (nth f.Nodes a).Kids i < f.Nodes.length := fun i i0 i1 => by have := hki i i0 i1; omega
  have ea1 := fun f0 p0 p1 p2 p3 p4 p5 q0 q1 q2 q3 q4 q5 q6 h0 h1 c hc => ei_all n_impl_expression isExpr ei_expression f0 f.Nodes (nth f.Nodes a).Kids p0 p1 p2 p3 p4 p5 q0 q1 q2 q3 q4 q5 q6 h0 h1 hk c hc hki'
  have ea2 := fun f0 p0 p1 p2 p3 p4 p5 q0 q1 q2 q3 q4 q5 q6 h0 h1 c hc => ei_all n_impl_statement isStat ei_statement f0 f.Nodes (nth f.Nodes a).Kids p0 p1 p2 p3 p4 p5 q0 q1 q2 q3 q4 q5 q6 h0 h1 hk c hc hki'
  have k0 := hki' 0
  have k1 := hki' 1
  have k2 := hki' 2
  have k3 := hki' 3
  have k4 := hki' ((nth f.Nodes a).Kids.length - 1)
  have k5 := hki' ((nth f.Nodes a).Kids.length - 2)
  have e0 := @kid_is f a hki 0
  have e1 := @kid_is f a hki 1
  have e2 := @kid_is f a hki 2
  have e3 := @kid_is f a hki 3
  have e4 := @kid_is f a hki ((nth f.Nodes a).Kids.length - 1)
  have e5 := @kid_is f a hki ((nth f.Nodes a).Kids.length - 2)
  simp (maxSteps := 10000000) -implicitDefEqProofs +contextual (disch := omega) only [e_zNo, u_zNo, rr_zNo, hK, hs, he, hc, nodes, ints, strs, ups, Node.cells, Fn.cells, ↓XD, XU, ↓reduceIte, sevalprocAttr, ei_statement, ei_expression, ei_IsNaN, hl, ea1, ea2, ei_is, ei_kind]
  refine some_bool ?_
  simp only [Shape, Stmt, Expr, hK, hs, he, Bare, exprs_one, exprs_two, exprs_three, exprs_all f a hki (Int.le_refl 0), stats_all f a hki, Bool.and_eq_true, Bool.or_eq_true, Bool.not_eq_true', decide_eq_false_iff_not, decide_eq_true_eq, Int.reduceEq, false_and, and_false, false_or, or_false, true_and, and_true, Bool.false_eq_true, not_true, not_false_eq_true]
  clear hl ea1 ea2
  grind
theorem nk_36 (hK : (nth f.Nodes a).Kind = 36) : EP A n_zNo [.agg f.cells, .int .i64 a] = some (.bool (decide (Shape f.Nodes a))) := by
  have hs : ¬isStat 36 := by simp only [isStat]; omega
  have he : isExpr 36 := by simp only [isExpr]; omega
  have hki' : ∀ i : Int, 0 ≤ i → i < (nth f.Nodes a).Kids.length → 0 ≤ nth (nth f.Nodes a).Kids i ∧ nth (nth f.Nodes a).Kids i < f.Nodes.length := fun i i0 i1 => by have := hki i i0 i1; omega
  have ea1 := fun f0 p0 p1 p2 p3 p4 p5 q0 q1 q2 q3 q4 q5 q6 h0 h1 c hc => ei_all n_impl_expression isExpr ei_expression f0 f.Nodes (nth f.Nodes a).Kids p0 p1 p2 p3 p4 p5 q0 q1 q2 q3 q4 q5 q6 h0 h1 hk c hc hki'
  have ea2 := fun f0 p0 p1 p2 p3 p4 p5 q0 q1 q2 q3 q4 q5 q6 h0 h1 c hc => ei_all n_impl_statement isStat ei_statement f0 f.Nodes (nth f.Nodes a).Kids p0 p1 p2 p3 p4 p5 q0 q1 q2 q3 q4 q5 q6 h0 h1 hk c hc hki'
  have k0 := hki' 0
  have k1 := hki' 1
  have k2 := hki' 2
  have k3 := hki' 3
  have k4 := hki' ((nth f.Nodes a).Kids.length - 1)
  have k5 := hki' ((nth f.Nodes a).Kids.length - 2)
  have e0 := @kid_is f a hki 0
  have e1 := @kid_is f a hki 1
  have e2 := @kid_is f a hki 2
  have e3 := @kid_is f a hki 3
  have e4 := @kid_is f a hki ((nth f.Nodes a).Kids.length - 1)
  have e5 := @kid_is f a hki ((nth f.Nodes a).Kids.length - 2)
  simp (maxSteps := 10000000) -implicitDefEqProofs +contextual (disch := omega) only [e_zNo, u_zNo, rr_zNo, hK, hs, he, hc, nodes, ints, strs, ups, Node.cells, Fn.cells, ↓XD, XU, ↓reduceIte, sevalprocAttr, ei_statement, ei_expression, ei_IsNaN, hl, ea1, ea2, ei_is, ei_kind]
  refine some_bool ?_
  simp only [Shape, Stmt, Expr, hK, hs, he, Bare, exprs_one, exprs_two, exprs_three, exprs_all f a hki (Int.le_refl 0), stats_all f a hki, Bool.and_eq_true, Bool.or_eq_true, Bool.not_eq_true', decide_eq_false_iff_not, decide_eq_true_eq, Int.reduceEq, false_and, and_false, false_or, or_false, true_and, and_true, Bool.false_eq_true, not_true, not_false_eq_true]
  clear hl ea1 ea2
  grind
theorem nk_37 (hK : (nth f.Nodes a).Kind = 37) : EP A n_zNo [.agg f.cells, .int .i64 a] = some (.bool (decide (Shape f.Nodes a))) := by
  have hs : ¬isStat 37 := by simp only [isStat]; omega
  have he : isExpr 37 := by simp only [isExpr]; omega
  have hki' : ∀ i : Int, 0 ≤ i → i < (nth f.Nodes a).Kids.length → 0 ≤ nth (nth f.Nodes a).Kids i ∧ nth (nth f.Nodes a).Kids i < f.Nodes.length := fun i i0 i1 => by have := hki i i0 i1; omega
  have ea1 := fun f0 p0 p1 p2 p3 p4 p5 q0 q1 q2 q3 q4 q5 q6 h0 h1 c hc => ei_all n_impl_expression isExpr ei_expression f0 f.Nodes (nth f.Nodes a).Kids p0 p1 p2 p3 p4 p5 q0 q1 q2 q3 q4 q5 q6 h0 h1 hk c hc hki'
  have ea2 := fun f0 p0 p1 p2 p3 p4 p5 q0 q1 q2 q3 q4 q5 q6 h0 h1 c hc => ei_all n_impl_statement isStat ei_statement f0 f.Nodes (nth f.Nodes a).Kids p0 p1 p2 p3 p4 p5 q0 q1 q2 q3 q4 q5 q6 h0 h1 hk c hc hki'
  have k0 := hki' 0
  have k1 := hki' 1
  have k2 := hki' 2
  have k3 := hki' 3
  have k4 := hki' ((nth f.Nodes a).Kids.length - 1)
  have k5 := hki' ((nth f.Nodes a).Kids.length - 2)
  have e0 := @kid_is f a hki 0
  have e1 := @kid_is f a hki 1
  have e2 := @kid_is f a hki 2
  have e3 := @kid_is f a hki 3
  have e4 := @kid_is f a hki ((nth f.Nodes a).Kids.length - 1)
  have e5 := @kid_is f a hki ((nth f.Nodes a).Kids.length - 2)
  simp (maxSteps := 10000000) -implicitDefEqProofs +contextual (disch := omega) only [e_zNo, u_zNo, rr_zNo, hK, hs, he, hc, nodes, ints, strs, ups, Node.cells, Fn.cells, ↓XD, XU, ↓reduceIte, sevalprocAttr, ei_statement, ei_expression, ei_IsNaN, hl, ea1, ea2, ei_is, ei_kind]
  refine some_bool ?_
  simp only [Shape, Stmt, Expr, hK, hs, he, Bare, exprs_one, exprs_two, exprs_three, exprs_all f a hki (Int.le_refl 0), stats_all f a hki, Bool.and_eq_true, Bool.or_eq_true, Bool.not_eq_true', decide_eq_false_iff_not, decide_eq_true_eq, Int.reduceEq, false_and, and_false, false_or, or_false, true_and, and_true, Bool.false_eq_true, not_true, not_false_eq_true]
  clear hl ea1 ea2
  grind
theorem nk_38 (hK : (nth f.Nodes a).Kind = 38) : EP A n_zNo [.agg f.cells, .int .i64 a] = some (.bool (decide (Shape f.Nodes a))) := by
  have hs : ¬isStat 38 := by simp only [isStat]; omega
  have he : isExpr 38 := by simp only [isExpr]; omega
  have hki' : ∀ i : Int, 0 ≤ i → i < (nth f.Nodes a).Kids.length → 0 ≤ nth (nth f.Nodes a).Kids i ∧ nth (nth f.Nodes a).Kids i < f.Nodes.length := fun i i0 i1 => by have := hki i i0 i1; omega
  have ea1 := fun f0 p0 p1 p2 p3 p4 p5 q0 q1 q2 q3 q4 q5 q6 h0 h1 c hc => ei_all n_impl_expression isExpr ei_expression f0 f.Nodes (nth f.Nodes a).Kids p0 p1 p2 p3 p4 p5 q0 q1 q2 q3 q4 q5 q6 h0 h1 hk c hc hki'
  have ea2 := fun f0 p0 p1 p2 p3 p4 p5 q0 q1 q2 q3 q4 q5 q6 h0 h1 c hc => ei_all n_impl_statement isStat ei_statement f0 f.Nodes (nth f.Nodes a).Kids p0 p1 p2 p3 p4 p5 q0 q1 q2 q3 q4 q5 q6 h0 h1 hk c hc hki'
  have k0 := hki' 0
  have k1 := hki' 1
  have k2 := hki' 2
  have k3 := hki' 3
  have k4 := hki' ((nth f.Nodes a).Kids.length - 1)
  have k5 := hki' ((nth f.Nodes a).Kids.length - 2)
  have e0 := @kid_is f a hki 0
  have e1 := @kid_is f a hki 1
  have e2 := @kid_is f a hki 2
  have e3 := @kid_is f a hki 3
  have e4 := @kid_is f a hki ((nth f.Nodes a).Kids.length - 1)
  have e5 := @kid_is f a hki ((nth f.Nodes a).Kids.length - 2)
  simp (maxSteps := 10000000) -implicitDefEqProofs +contextual (disch := omega) only [e_zNo, u_zNo, rr_zNo, hK, hs, he, hc, nodes, ints, strs, ups, Node.cells, Fn.cells, ↓XD, XU, ↓reduceIte, sevalprocAttr, ei_statement, ei_expression, ei_IsNaN, hl, ea1, ea2, ei_is, ei_kind]
  refine some_bool ?_
  simp only [Shape, Stmt, Expr, hK, hs, he, Bare, exprs_one, exprs_two, exprs_three, exprs_all f a hki (Int.le_refl 0), stats_all f a hki, Bool.and_eq_true, Bool.or_eq_true, Bool.not_eq_true', decide_eq_false_iff_not, decide_eq_true_eq, Int.reduceEq, false_and, and_false, false_or, or_false, true_and, and_true, Bool.false_eq_true, not_true, not_false_eq_true]
  clear hl ea1 ea2
  grind
end
end
theorem li_nodeOk1 (f : Fn) (a : Int) (h0 : 0 ≤ a) (h1 : a < f.Nodes.length) (hk : (nth f.Nodes a).Kids.length ≤ 1048576) (hki : ∀ i : Int, 0 ≤ i → i < (nth f.Nodes a).Kids.length → 0 ≤ nth (nth f.Nodes a).Kids i ∧ nth (nth f.Nodes a).Kids i < f.Nodes.length) (n1 : 1 ≤ (nth f.Nodes a).Num) (n2 : (nth f.Nodes a).Num < (nth f.Nodes a).Kids.length) : match seek (fun (j : Int) => (¬ikind f.Nodes (nth f.Nodes a).Kids j = 26 ∧ ¬ikind f.Nodes (nth f.Nodes a).Kids j = 27) ∧ ¬ikind f.Nodes (nth f.Nodes a).Kids j = 33) 0 (nth f.Nodes a).Num with | some j => ∃ st, EV A (.loop (B_zNo 1)) (⟨[(0, .agg f.cells), (1, .int .i64 a), (2, .ptr 0 0 0 1), (4, .bool false), (5, .ptr 1 0 0 1), (67, ints (nth f.Nodes a).Kids), (68, .int .i64 (nth f.Nodes a).Kids.length), (69, .int .i64 (nth f.Nodes a).Kids.length), (8, .ptr 2 0 0 1), (9, .ptr 3 0 0 1), (10, .fn n_zNo_S2 [.ptr 3 0 0 1, .ptr 2 0 0 1]), (11, .fn n_zNo_S3 [.ptr 2 0 0 1]), (12, .int .i64 (nth f.Nodes a).Refs.length), (13, .bool false), (14, .bool true), (15, .bool false), (16, .bool false), (17, .int .i64 0), (18, .int .i64 0), (19, .bool false), (91, .int .i64 3), (113, .int .i64 (nth f.Nodes a).Num), (114, .int .i64 (0))], [], [.cells 7 [f.cells], .cells 8 [(nth f.Nodes a).cells], .cells 1 [[.fn n_zNo_S1 [.ptr 0 0 0 1, .ptr 1 0 0 1]]], .cells 1 [[.int .i64 (nth f.Nodes a).Kids.length]]], []⟩ : St) = some (.ret, st) ∧ st.per.get 4 = .bool false | none => EV A (.loop (B_zNo 1)) (⟨[(0, .agg f.cells), (1, .int .i64 a), (2, .ptr 0 0 0 1), (4, .bool false), (5, .ptr 1 0 0 1), (67, ints (nth f.Nodes a).Kids), (68, .int .i64 (nth f.Nodes a).Kids.length), (69, .int .i64 (nth f.Nodes a).Kids.length), (8, .ptr 2 0 0 1), (9, .ptr 3 0 0 1), (10, .fn n_zNo_S2 [.ptr 3 0 0 1, .ptr 2 0 0 1]), (11, .fn n_zNo_S3 [.ptr 2 0 0 1]), (12, .int .i64 (nth f.Nodes a).Refs.length), (13, .bool false), (14, .bool true), (15, .bool false), (16, .bool false), (17, .int .i64 0), (18, .int .i64 0), (19, .bool false), (91, .int .i64 3), (113, .int .i64 (nth f.Nodes a).Num), (114, .int .i64 (0))], [], [.cells 7 [f.cells], .cells 8 [(nth f.Nodes a).cells], .cells 1 [[.fn n_zNo_S1 [.ptr 0 0 0 1, .ptr 1 0 0 1]]], .cells 1 [[.int .i64 (nth f.Nodes a).Kids.length]]], []⟩ : St) = some (AExit.exit 3, (⟨[(0, .agg f.cells), (1, .int .i64 a), (2, .ptr 0 0 0 1), (4, .bool false), (5, .ptr 1 0 0 1), (67, ints (nth f.Nodes a).Kids), (68, .int .i64 (nth f.Nodes a).Kids.length), (69, .int .i64 (nth f.Nodes a).Kids.length), (8, .ptr 2 0 0 1), (9, .ptr 3 0 0 1), (10, .fn n_zNo_S2 [.ptr 3 0 0 1, .ptr 2 0 0 1]), (11, .fn n_zNo_S3 [.ptr 2 0 0 1]), (12, .int .i64 (nth f.Nodes a).Refs.length), (13, .bool false), (14, .bool true), (15, .bool false), (16, .bool false), (17, .int .i64 0), (18, .int .i64 0), (19, .bool false), (91, .int .i64 3), (113, .int .i64 (nth f.Nodes a).Num), (114, .int .i64 ((nth f.Nodes a).Num))], [], [.cells 7 [f.cells], .cells 8 [(nth f.Nodes a).cells], .cells 1 [[.fn n_zNo_S1 [.ptr 0 0 0 1, .ptr 1 0 0 1]]], .cells 1 [[.int .i64 (nth f.Nodes a).Kids.length]]], []⟩ : St)) := by
  refine loop_seek (fun i => (⟨[(0, .agg f.cells), (1, .int .i64 a), (2, .ptr 0 0 0 1), (4, .bool false), (5, .ptr 1 0 0 1), (67, ints (nth f.Nodes a).Kids), (68, .int .i64 (nth f.Nodes a).Kids.length), (69, .int .i64 (nth f.Nodes a).Kids.length), (8, .ptr 2 0 0 1), (9, .ptr 3 0 0 1), (10, .fn n_zNo_S2 [.ptr 3 0 0 1, .ptr 2 0 0 1]), (11, .fn n_zNo_S3 [.ptr 2 0 0 1]), (12, .int .i64 (nth f.Nodes a).Refs.length), (13, .bool false), (14, .bool true), (15, .bool false), (16, .bool false), (17, .int .i64 0), (18, .int .i64 0), (19, .bool false), (91, .int .i64 3), (113, .int .i64 (nth f.Nodes a).Num), (114, .int .i64 i)], [], [.cells 7 [f.cells], .cells 8 [(nth f.Nodes a).cells], .cells 1 [[.fn n_zNo_S1 [.ptr 0 0 0 1, .ptr 1 0 0 1]]], .cells 1 [[.int .i64 (nth f.Nodes a).Kids.length]]], []⟩ : St)) (fun (j : Int) => (¬ikind f.Nodes (nth f.Nodes a).Kids j = 26 ∧ ¬ikind f.Nodes (nth f.Nodes a).Kids j = 27) ∧ ¬ikind f.Nodes (nth f.Nodes a).Kids j = 33) (fun (j : Int) (st : St) => st.per.get 4 = .bool false) (AExit.exit 3, (⟨[(0, .agg f.cells), (1, .int .i64 a), (2, .ptr 0 0 0 1), (4, .bool false), (5, .ptr 1 0 0 1), (67, ints (nth f.Nodes a).Kids), (68, .int .i64 (nth f.Nodes a).Kids.length), (69, .int .i64 (nth f.Nodes a).Kids.length), (8, .ptr 2 0 0 1), (9, .ptr 3 0 0 1), (10, .fn n_zNo_S2 [.ptr 3 0 0 1, .ptr 2 0 0 1]), (11, .fn n_zNo_S3 [.ptr 2 0 0 1]), (12, .int .i64 (nth f.Nodes a).Refs.length), (13, .bool false), (14, .bool true), (15, .bool false), (16, .bool false), (17, .int .i64 0), (18, .int .i64 0), (19, .bool false), (91, .int .i64 3), (113, .int .i64 (nth f.Nodes a).Num), (114, .int .i64 ((nth f.Nodes a).Num))], [], [.cells 7 [f.cells], .cells 8 [(nth f.Nodes a).cells], .cells 1 [[.fn n_zNo_S1 [.ptr 0 0 0 1, .ptr 1 0 0 1]]], .cells 1 [[.int .i64 (nth f.Nodes a).Kids.length]]], []⟩ : St)) (0) ((nth f.Nodes a).Num) ?_ ?_ ?_ (0) (by omega) (by omega)
  · intro i hi hn hp
    try simp only [Classical.not_not] at hp
    have hki1 := hki i hi (by omega)
    refine ⟨_, by simp -implicitDefEqProofs +contextual (disch := omega) only [ub_zNo_1, rr_zNo, ↓XD, XU, ↓reduceIte, sevalprocAttr, nodes, ints, strs, ups, Node.cells, Fn.cells, ei_kind, hn, hp]; rfl, by first | (simp [St.next, trim_all]; done) | (simp [St.next, trim_all]; omega) | (simp [St.next, trim, bare, refsL, refs]; done)⟩
  · intro i hi hn hp
    have hki1 := hki i hi (by omega)
    refine ⟨_, by simp -implicitDefEqProofs +contextual (disch := omega) only [ub_zNo_1, rr_zNo, ↓XD, XU, ↓reduceIte, sevalprocAttr, nodes, ints, strs, ups, Node.cells, Fn.cells, ei_kind, hn, hp]; rfl, by simp [Env.get]⟩
  · rintro i hi rfl
    refine ⟨by simp -implicitDefEqProofs +contextual (disch := omega) only [ub_zNo_1, rr_zNo, ↓XD, XU, ↓reduceIte, sevalprocAttr, nodes, ints, strs, ups, Node.cells, Fn.cells, ei_kind, Int.lt_irrefl], by simp⟩
theorem nk_3 (f : Fn) (a : Int) (h0 : 0 ≤ a) (h1 : a < f.Nodes.length) (hk : (nth f.Nodes a).Kids.length ≤ 1048576) (hl : ∀ v0 H, EV A (.loop (B_zNo 0)) ⟨[(0, v0), (1, .int .i64 a), (2, .ptr 0 0 0 1), (4, .bool false), (5, .ptr 1 0 0 1), (67, ints (nth f.Nodes a).Kids), (68, .int .i64 (nth f.Nodes a).Kids.length), (69, .int .i64 0)], [], H, []⟩ = some (.exit 0, ⟨[(0, v0), (1, .int .i64 a), (2, .ptr 0 0 0 1), (4, .bool false), (5, .ptr 1 0 0 1), (67, ints (nth f.Nodes a).Kids), (68, .int .i64 (nth f.Nodes a).Kids.length), (69, .int .i64 (nth f.Nodes a).Kids.length)], [], H, []⟩))
   (hki : ∀ i : Int, 0 ≤ i → i < (nth f.Nodes a).Kids.length → 0 ≤ nth (nth f.Nodes a).Kids i ∧ nth (nth f.Nodes a).Kids i < a) (hc : ¬200 < ((nth f.Nodes a).Kids.length : Int)) (hK : (nth f.Nodes a).Kind = 3) : EP A n_zNo [.agg f.cells, .int .i64 a] = some (.bool (decide (Shape f.Nodes a))) := by
  have hs : isStat 3 := by simp only [isStat]; omega
  have he : ¬isExpr 3 := by simp only [isExpr]; omega
  have hki' : ∀ i : Int, 0 ≤ i → i < (nth f.Nodes a).Kids.length → 0 ≤ nth (nth f.Nodes a).Kids i ∧ nth (nth f.Nodes a).Kids i < f.Nodes.length := fun i i0 i1 => by have := hki i i0 i1; omega
  have ea1 := fun f0 p0 p1 p2 p3 p4 p5 q0 q1 q2 q3 q4 q5 q6 h0 h1 c hc => ei_all n_impl_expression isExpr ei_expression f0 f.Nodes (nth f.Nodes a).Kids p0 p1 p2 p3 p4 p5 q0 q1 q2 q3 q4 q5 q6 h0 h1 hk c hc hki'
  by_cases hn : (nth f.Nodes a).Num < 1 ∨ ((nth f.Nodes a).Kids.length : Int) ≤ (nth f.Nodes a).Num
  · have hb : True := trivial
    simp (maxSteps := 10000000) -implicitDefEqProofs +contextual (disch := omega) only [e_zNo, u_zNo, rr_zNo, hK, hs, he, hc, hn, nodes, ints, strs, ups, Node.cells, Fn.cells, ↓XD, XU, ↓reduceIte, sevalprocAttr, ei_statement, ei_expression, ei_IsNaN, hl, hb, ea1, ei_is, ei_kind]
    refine some_bool ?_
    simp only [Shape, Stmt, Expr, hK, hs, he, Bool.false_eq_true]
    clear hl ea1
    grind
  · have hb := li_nodeOk1 f a h0 h1 hk hki' (by omega) (by omega)
    cases hx : seek (fun j => (¬ikind f.Nodes (nth f.Nodes a).Kids j = 26 ∧ ¬ikind f.Nodes (nth f.Nodes a).Kids j = 27) ∧ ¬ikind f.Nodes (nth f.Nodes a).Kids j = 33) 0 (nth f.Nodes a).Num with
    | some j =>
      obtain ⟨j0, j1, j2, _⟩ := seek_some.1 hx
      rw [hx] at hb
      obtain ⟨st, hb, g⟩ := hb
      simp only [Node.cells, hK] at hb
      have hq : ¬Shape f.Nodes a := fun h => by
        have h := h.2.2
        simp only [Stmt, Expr, hK, hs, he] at h
        have h := h.elim (fun h => h.2.2.2) (fun h => absurd h.1 (by simp))
        simp at h
        have := h.2.2.1 j j0 j1
        rw [kid_is f a hki j0 (by omega)] at this
        omega
      by_cases hLn : (nth f.Nodes a).Line < 1 ∨ 100000 < (nth f.Nodes a).Line
      · simp (maxSteps := 10000000) -implicitDefEqProofs +contextual (disch := omega) only [e_zNo, u_zNo, rr_zNo, hK, hs, he, hc, hn, g, hq, hLn, nodes, ints, strs, ups, Node.cells, Fn.cells, ↓XD, XU, ↓reduceIte, sevalprocAttr, ei_statement, ei_expression, ei_IsNaN, hl, hb, ea1, ei_is, ei_kind]
      · simp (maxSteps := 10000000) -implicitDefEqProofs +contextual (disch := omega) only [e_zNo, u_zNo, rr_zNo, hK, hs, he, hc, hn, g, hq, hLn, nodes, ints, strs, ups, Node.cells, Fn.cells, ↓XD, XU, ↓reduceIte, sevalprocAttr, ei_statement, ei_expression, ei_IsNaN, hl, hb, ea1, ei_is, ei_kind]
    | none =>
      rw [hx] at hb
      simp only [Node.cells, hK] at hb
      have hq : ∀ i : Int, 0 ≤ i → i < (nth f.Nodes a).Num → l3kid f.Nodes a i = 26 ∨ l3kid f.Nodes a i = 27 ∨ l3kid f.Nodes a i = 33 := fun j j0 j1 => by
        have := seek_none.1 hx j j0 j1
        rw [kid_is f a hki j0 (by omega)]
        omega
      have hx2 := exprs_all f a hki (i := (nth f.Nodes a).Num) (by omega)
      simp (maxSteps := 10000000) -implicitDefEqProofs +contextual (disch := omega) only [e_zNo, u_zNo, rr_zNo, hK, hs, he, hc, hn, nodes, ints, strs, ups, Node.cells, Fn.cells, ↓XD, XU, ↓reduceIte, sevalprocAttr, ei_statement, ei_expression, ei_IsNaN, hl, hb, ea1, ei_is, ei_kind]
      refine some_bool ?_
      simp only [Shape, Stmt, Expr, hK, hs, he, Bare, hx2, Bool.and_eq_true, Bool.or_eq_true, Bool.not_eq_true', decide_eq_false_iff_not, decide_eq_true_eq, Int.reduceEq, false_and, and_false, false_or, or_false, true_and, and_true, Bool.false_eq_true, not_true, not_false_eq_true]
      clear hl ea1 hb
      grind
theorem ei_nodeOk (f : Fn) (a : Int) (h0 : 0 ≤ a) (h1 : a < f.Nodes.length) (hk : (nth f.Nodes a).Kids.length ≤ 1048576) : EP A n_zNo [.agg f.cells, .int .i64 a] = some (.bool (decide (Shape f.Nodes a))) := by
  by_cases hse : isStat (nth f.Nodes a).Kind ∨ isExpr (nth f.Nodes a).Kind
  · by_cases hc : 200 < ((nth f.Nodes a).Kids.length : Int)
    · have hq : ¬Shape f.Nodes a := fun h => by have := h.1; omega
      by_cases hs : isStat (nth f.Nodes a).Kind
      · simp (maxSteps := 10000000) -implicitDefEqProofs +contextual (disch := omega) only [e_zNo, u_zNo, rr_zNo, hs, hc, hq, nodes, ints, strs, ups, Node.cells, Fn.cells, ↓XD, XU, ↓reduceIte, sevalprocAttr, ei_statement, ei_expression]
      · have he := hse.resolve_left hs
        simp (maxSteps := 10000000) -implicitDefEqProofs +contextual (disch := omega) only [e_zNo, u_zNo, rr_zNo, hs, he, hc, hq, nodes, ints, strs, ups, Node.cells, Fn.cells, ↓XD, XU, ↓reduceIte, sevalprocAttr, ei_statement, ei_expression]
    · have hl := fun v0 H => li_nodeOk0 v0 a (nth f.Nodes a).Kids H hk
      cases hx : seek (fun j => nth (nth f.Nodes a).Kids j < 0 ∨ a ≤ nth (nth f.Nodes a).Kids j) 0 (nth f.Nodes a).Kids.length with
      | some j =>
        obtain ⟨j0, j1, j2, _⟩ := seek_some.1 hx
        have hq : ¬Shape f.Nodes a := fun h => by have := h.2.1 j j0 j1; omega
        simp only [hx] at hl
        by_cases hs : isStat (nth f.Nodes a).Kind
        · have he : ¬isExpr (nth f.Nodes a).Kind := by simp only [isStat] at hs; simp only [isExpr]; omega
          simp (maxSteps := 10000000) -implicitDefEqProofs +contextual (disch := omega) only [e_zNo, u_zNo, rr_zNo, hs, he, hc, hq, hl, nodes, ints, strs, ups, Node.cells, Fn.cells, ↓XD, XU, ↓reduceIte, sevalprocAttr, ei_statement, ei_expression]
        · have he := hse.resolve_left hs
          simp (maxSteps := 10000000) -implicitDefEqProofs +contextual (disch := omega) only [e_zNo, u_zNo, rr_zNo, hs, he, hc, hq, hl, nodes, ints, strs, ups, Node.cells, Fn.cells, ↓XD, XU, ↓reduceIte, sevalprocAttr, ei_statement, ei_expression]
      | none =>
        simp only [hx] at hl
        have hki : ∀ i : Int, 0 ≤ i → i < (nth f.Nodes a).Kids.length → 0 ≤ nth (nth f.Nodes a).Kids i ∧ nth (nth f.Nodes a).Kids i < a := fun i i0 i1 => by have := seek_none.1 hx i i0 i1; omega
        simp only [isStat, isExpr] at hse
        by_cases k1 : (nth f.Nodes a).Kind = 1
        · exact nk_1 f a h0 h1 hk hl hki hc k1
        by_cases k2 : (nth f.Nodes a).Kind = 2
        · exact nk_2 f a h0 h1 hk hl hki hc k2
        by_cases k3 : (nth f.Nodes a).Kind = 3
        · exact nk_3 f a h0 h1 hk hl hki hc k3
        by_cases k4 : (nth f.Nodes a).Kind = 4
        · exact nk_4 f a h0 h1 hk hl hki hc k4
        by_cases k5 : (nth f.Nodes a).Kind = 5
        · exact nk_5 f a h0 h1 hk hl hki hc k5
        by_cases k6 : (nth f.Nodes a).Kind = 6
        · exact nk_6 f a h0 h1 hk hl hki hc k6
        by_cases k7 : (nth f.Nodes a).Kind = 7
        · exact nk_7 f a h0 h1 hk hl hki hc k7
        by_cases k8 : (nth f.Nodes a).Kind = 8
        · exact nk_8 f a h0 h1 hk hl hki hc k8
        by_cases k9 : (nth f.Nodes a).Kind = 9
        · exact nk_9 f a h0 h1 hk hl hki hc k9
        by_cases k10 : (nth f.Nodes a).Kind = 10
        · exact nk_10 f a h0 h1 hk hl hki hc k10
        by_cases k11 : (nth f.Nodes a).Kind = 11
        · exact nk_11 f a h0 h1 hk hl hki hc k11
        by_cases k12 : (nth f.Nodes a).Kind = 12
        · exact nk_12 f a h0 h1 hk hl hki hc k12
        by_cases k13 : (nth f.Nodes a).Kind = 13
        · exact nk_13 f a h0 h1 hk hl hki hc k13
        by_cases k14 : (nth f.Nodes a).Kind = 14
        · exact nk_14 f a h0 h1 hk hl hki hc k14
        by_cases k20 : (nth f.Nodes a).Kind = 20
        · exact nk_20 f a h0 h1 hk hl hki hc k20
        by_cases k21 : (nth f.Nodes a).Kind = 21
        · exact nk_21 f a h0 h1 hk hl hki hc k21
        by_cases k22 : (nth f.Nodes a).Kind = 22
        · exact nk_22 f a h0 h1 hk hl hki hc k22
        by_cases k23 : (nth f.Nodes a).Kind = 23
        · exact nk_23 f a h0 h1 hk hl hki hc k23
        by_cases k24 : (nth f.Nodes a).Kind = 24
        · exact nk_24 f a h0 h1 hk hl hki hc k24
        by_cases k25 : (nth f.Nodes a).Kind = 25
        · exact nk_25 f a h0 h1 hk hl hki hc k25
        by_cases k26 : (nth f.Nodes a).Kind = 26
        · exact nk_26 f a h0 h1 hk hl hki hc k26
        by_cases k27 : (nth f.Nodes a).Kind = 27
        · exact nk_27 f a h0 h1 hk hl hki hc k27
        by_cases k28 : (nth f.Nodes a).Kind = 28
        · exact nk_28 f a h0 h1 hk hl hki hc k28
        by_cases k29 : (nth f.Nodes a).Kind = 29
        · exact nk_29 f a h0 h1 hk hl hki hc k29
        by_cases k30 : (nth f.Nodes a).Kind = 30
        · exact nk_30 f a h0 h1 hk hl hki hc k30
        by_cases k31 : (nth f.Nodes a).Kind = 31
        · exact nk_31 f a h0 h1 hk hl hki hc k31
        by_cases k32 : (nth f.Nodes a).Kind = 32
        · exact nk_32 f a h0 h1 hk hl hki hc k32
        by_cases k33 : (nth f.Nodes a).Kind = 33
        · exact nk_33 f a h0 h1 hk hl hki hc k33
        by_cases k34 : (nth f.Nodes a).Kind = 34
        · exact nk_34 f a h0 h1 hk hl hki hc k34
        by_cases k35 : (nth f.Nodes a).Kind = 35
        · exact nk_35 f a h0 h1 hk hl hki hc k35
        by_cases k36 : (nth f.Nodes a).Kind = 36
        · exact nk_36 f a h0 h1 hk hl hki hc k36
        by_cases k37 : (nth f.Nodes a).Kind = 37
        · exact nk_37 f a h0 h1 hk hl hki hc k37
        by_cases k38 : (nth f.Nodes a).Kind = 38
        · exact nk_38 f a h0 h1 hk hl hki hc k38
        exfalso; omega
  · have hs : ¬isStat (nth f.Nodes a).Kind := fun h => hse (.inl h)
    have he : ¬isExpr (nth f.Nodes a).Kind := fun h => hse (.inr h)
    have hq : ¬Shape f.Nodes a := fun h => by
      rcases h.2.2 with h | h
      · exact hs h.1
      · have h := h.2.2
        simp only [isExpr] at he
        simp only [Expr] at h
        omega
    simp (maxSteps := 10000000) -implicitDefEqProofs +contextual (disch := omega) only [e_zNo, u_zNo, rr_zNo, hs, he, hq, nodes, ints, strs, ups, Node.cells, Fn.cells, ↓XD, XU, ↓reduceIte, sevalprocAttr, ei_statement, ei_expression]
theorem li_0 (fs : List Fn) (hb : fs.length ≤ 1048576) (ht : total fs ≤ 1048576) (a0 : Int) (hok0 : a0 = totalN fs ((0) : Int).toNat) : EV A (.loop (B_zCU 0)) (⟨[(0, unit fs), (1, .ptr 0 0 0 1), (2, .ptr 1 0 0 1), (3, .int .i64 a0), (49, fns fs), (50, .int .i64 fs.length), (51, .int .i64 (0))], [], hU fs, []⟩ : St) = some (AExit.exit 0, (⟨[(0, unit fs), (1, .ptr 0 0 0 1), (2, .ptr 1 0 0 1), (3, .int .i64 (iter (fun (i : Int) (a : Int) => totalN fs (i + 1).toNat) ((fs.length : Int) - 0).toNat (0) a0)), (49, fns fs), (50, .int .i64 fs.length), (51, .int .i64 (fs.length))], [], hU fs, []⟩ : St)) ∧ (iter (fun (i : Int) (a : Int) => totalN fs (i + 1).toNat) ((fs.length : Int) - 0).toNat (0) a0) = totalN fs ((fs.length) : Int).toNat := by
  refine loop_iter (fun i (a : Int) => (⟨[(0, unit fs), (1, .ptr 0 0 0 1), (2, .ptr 1 0 0 1), (3, .int .i64 a), (49, fns fs), (50, .int .i64 fs.length), (51, .int .i64 i)], [], hU fs, []⟩ : St)) (fun (i : Int) (a : Int) => totalN fs (i + 1).toNat) (fun i (a : Int) => a = totalN fs (i : Int).toNat) (fun a => (AExit.exit 0, (⟨[(0, unit fs), (1, .ptr 0 0 0 1), (2, .ptr 1 0 0 1), (3, .int .i64 a), (49, fns fs), (50, .int .i64 fs.length), (51, .int .i64 (fs.length))], [], hU fs, []⟩ : St))) (0) (fs.length) ?_ ?_ (0) a0 (by omega) (by omega) hok0
  · intro i a hi hn hok
    have hs := totalN_step fs hi hn; have hs2 := totalN_le fs i.toNat; have hs3 := totalN_le fs (i + 1).toNat
    refine ⟨⟨_, by simp -implicitDefEqProofs +contextual (disch := omega) only [ub_zCU_0, rr_zCU, ↓XD, XU, ↓reduceIte, sevalprocAttr, hU, unit, fns, Fn.cells, hs, hn, hok]; rfl, by first | (simp [St.next, trim_all]; done) | (simp [St.next, trim_all]; omega) | (simp [St.next, trim, bare, refsL, refs]; done)⟩, by rfl⟩
  · rintro i a hi rfl hok
    refine ⟨by simp -implicitDefEqProofs +contextual (disch := omega) only [ub_zCU_0, rr_zCU, ↓XD, XU, ↓reduceIte, sevalprocAttr, hU, unit, fns, Fn.cells, Int.lt_irrefl, hok], by simp⟩
theorem li_1 (fs : List Fn) (t : Int) (hb : fs.length ≤ 1048576) (hs : SizedF fs) : match seek (fun (j : Int) => ¬Head fs j) 0 fs.length with | some j => ∃ st, EV A (.loop (B_zCU 1)) (⟨[(0, unit fs), (1, .ptr 0 0 0 1), (2, .ptr 1 0 0 1), (3, .int .i64 t), (49, fns fs), (50, .int .i64 fs.length), (51, .int .i64 fs.length), (78, .int .i64 fs.length), (79, .int .i64 (0))], [], hU fs, []⟩ : St) = some (.ret, st) ∧ ResAt 2 1 3 (flt3 2 j 0) st | none => EV A (.loop (B_zCU 1)) (⟨[(0, unit fs), (1, .ptr 0 0 0 1), (2, .ptr 1 0 0 1), (3, .int .i64 t), (49, fns fs), (50, .int .i64 fs.length), (51, .int .i64 fs.length), (78, .int .i64 fs.length), (79, .int .i64 (0))], [], hU fs, []⟩ : St) = some (AExit.exit 2, (⟨[(0, unit fs), (1, .ptr 0 0 0 1), (2, .ptr 1 0 0 1), (3, .int .i64 t), (49, fns fs), (50, .int .i64 fs.length), (51, .int .i64 fs.length), (78, .int .i64 fs.length), (79, .int .i64 (fs.length))], [], hU fs, []⟩ : St)) := by
  refine loop_seek (fun i => (⟨[(0, unit fs), (1, .ptr 0 0 0 1), (2, .ptr 1 0 0 1), (3, .int .i64 t), (49, fns fs), (50, .int .i64 fs.length), (51, .int .i64 fs.length), (78, .int .i64 fs.length), (79, .int .i64 i)], [], hU fs, []⟩ : St)) (fun (j : Int) => ¬Head fs j) (fun (j : Int) (st : St) => ResAt 2 1 3 (flt3 2 j 0) st) (AExit.exit 2, (⟨[(0, unit fs), (1, .ptr 0 0 0 1), (2, .ptr 1 0 0 1), (3, .int .i64 t), (49, fns fs), (50, .int .i64 fs.length), (51, .int .i64 fs.length), (78, .int .i64 fs.length), (79, .int .i64 (fs.length))], [], hU fs, []⟩ : St)) (0) (fs.length) ?_ ?_ ?_ (0) (by omega) (by omega)
  · intro i hi hn hp
    try simp only [Classical.not_not] at hp
    have hs1 := (hs i).1
    refine ⟨_, by simp -implicitDefEqProofs +contextual (disch := omega) only [ub_zCU_1, rr_zCU, ↓XD, XU, ↓reduceIte, sevalprocAttr, hU, unit, fns, ei_fnOk, hn, hp]; rfl, by first | (simp [St.next, trim_all]; done) | (simp [St.next, trim_all]; omega) | (simp [St.next, trim, bare, refsL, refs]; done)⟩
  · intro i hi hn hp
    have hs1 := (hs i).1
    refine ⟨_, by simp -implicitDefEqProofs +contextual (disch := omega) only [ub_zCU_1, rr_zCU, ↓XD, XU, ↓reduceIte, sevalprocAttr, hU, unit, fns, ei_fnOk, hn, hp]; rfl, by simp [ResAt, Env.get, Env.put]⟩
  · rintro i hi rfl
    refine ⟨by simp -implicitDefEqProofs +contextual (disch := omega) only [ub_zCU_1, rr_zCU, ↓XD, XU, ↓reduceIte, sevalprocAttr, hU, unit, fns, ei_fnOk, Int.lt_irrefl], by simp⟩
abbrev hN (fs : List Fn) (f : Fn) : Heap := [.cells 1 [[fns fs]], .cells 3 [[.int .i64 0, .int .i64 0, .int .i64 0]], .cells 7 [f.cells]]
theorem li_3 (fs : List Fn) (t fi : Int) (f : Fn) (hb : fs.length ≤ 1048576) (hs : Sized f.Nodes) (hn : f.Nodes.length ≤ 1048576) : match seek (fun (j : Int) => ¬Shape f.Nodes j) 0 f.Nodes.length with | some j => ∃ st, EV A (.loop (B_zCU 3)) (⟨[(0, unit fs), (1, .ptr 0 0 0 1), (2, .ptr 1 0 0 1), (3, .int .i64 t), (49, fns fs), (50, .int .i64 fs.length), (51, .int .i64 fs.length), (78, .int .i64 fs.length), (79, .int .i64 fs.length), (90, fns fs), (91, .int .i64 fs.length), (92, .int .i64 fi), (8, .ptr 2 0 0 1), (7, .int .i64 fi), (99, .int .i64 f.Nodes.length), (100, .int .i64 (0))], [], hN fs f, []⟩ : St) = some (.ret, st) ∧ ResAt 2 1 3 (flt3 3 fi j) st | none => EV A (.loop (B_zCU 3)) (⟨[(0, unit fs), (1, .ptr 0 0 0 1), (2, .ptr 1 0 0 1), (3, .int .i64 t), (49, fns fs), (50, .int .i64 fs.length), (51, .int .i64 fs.length), (78, .int .i64 fs.length), (79, .int .i64 fs.length), (90, fns fs), (91, .int .i64 fs.length), (92, .int .i64 fi), (8, .ptr 2 0 0 1), (7, .int .i64 fi), (99, .int .i64 f.Nodes.length), (100, .int .i64 (0))], [], hN fs f, []⟩ : St) = some (AExit.exit 6, (⟨[(0, unit fs), (1, .ptr 0 0 0 1), (2, .ptr 1 0 0 1), (3, .int .i64 t), (49, fns fs), (50, .int .i64 fs.length), (51, .int .i64 fs.length), (78, .int .i64 fs.length), (79, .int .i64 fs.length), (90, fns fs), (91, .int .i64 fs.length), (92, .int .i64 fi), (8, .ptr 2 0 0 1), (7, .int .i64 fi), (99, .int .i64 f.Nodes.length), (100, .int .i64 (f.Nodes.length))], [], hN fs f, []⟩ : St)) := by
  refine loop_seek (fun i => (⟨[(0, unit fs), (1, .ptr 0 0 0 1), (2, .ptr 1 0 0 1), (3, .int .i64 t), (49, fns fs), (50, .int .i64 fs.length), (51, .int .i64 fs.length), (78, .int .i64 fs.length), (79, .int .i64 fs.length), (90, fns fs), (91, .int .i64 fs.length), (92, .int .i64 fi), (8, .ptr 2 0 0 1), (7, .int .i64 fi), (99, .int .i64 f.Nodes.length), (100, .int .i64 i)], [], hN fs f, []⟩ : St)) (fun (j : Int) => ¬Shape f.Nodes j) (fun (j : Int) (st : St) => ResAt 2 1 3 (flt3 3 fi j) st) (AExit.exit 6, (⟨[(0, unit fs), (1, .ptr 0 0 0 1), (2, .ptr 1 0 0 1), (3, .int .i64 t), (49, fns fs), (50, .int .i64 fs.length), (51, .int .i64 fs.length), (78, .int .i64 fs.length), (79, .int .i64 fs.length), (90, fns fs), (91, .int .i64 fs.length), (92, .int .i64 fi), (8, .ptr 2 0 0 1), (7, .int .i64 fi), (99, .int .i64 f.Nodes.length), (100, .int .i64 (f.Nodes.length))], [], hN fs f, []⟩ : St)) (0) (f.Nodes.length) ?_ ?_ ?_ (0) (by omega) (by omega)
  · intro i hi hn hp
    try simp only [Classical.not_not] at hp
    have hs1 := (hs i).2; have hs2 := ei_nodeOk f i hi hn hs1; simp only [Fn.cells, strs, ups, nodes] at hs2
    refine ⟨_, by simp -implicitDefEqProofs +contextual (disch := omega) only [ub_zCU_3, rr_zCU, ↓XD, XU, ↓reduceIte, sevalprocAttr, hN, unit, fns, Fn.cells, nodes, strs, ups, hs2, hn, hp]; rfl, by first | (simp [St.next, trim_all]; done) | (simp [St.next, trim_all]; omega) | (simp [St.next, trim, bare, refsL, refs]; done)⟩
  · intro i hi hn hp
    have hs1 := (hs i).2; have hs2 := ei_nodeOk f i hi hn hs1; simp only [Fn.cells, strs, ups, nodes] at hs2
    refine ⟨_, by simp -implicitDefEqProofs +contextual (disch := omega) only [ub_zCU_3, rr_zCU, ↓XD, XU, ↓reduceIte, sevalprocAttr, hN, unit, fns, Fn.cells, nodes, strs, ups, hs2, hn, hp]; rfl, by simp [ResAt, Env.get, Env.put]⟩
  · rintro i hi rfl
    refine ⟨by simp -implicitDefEqProofs +contextual (disch := omega) only [ub_zCU_3, rr_zCU, ↓XD, XU, ↓reduceIte, sevalprocAttr, hN, unit, fns, Fn.cells, nodes, strs, ups, Int.lt_irrefl], by simp⟩
theorem li_2 (fs : List Fn) (t : Int) (hb : fs.length ≤ 1048576) (hs : SizedF fs) : match seek (fun (j : Int) => badShape fs j ≠ none) 0 fs.length with | some j => ∃ st, EV A (.loop (B_zCU 2)) (⟨[(0, unit fs), (1, .ptr 0 0 0 1), (2, .ptr 1 0 0 1), (3, .int .i64 t), (49, fns fs), (50, .int .i64 fs.length), (51, .int .i64 fs.length), (78, .int .i64 fs.length), (79, .int .i64 fs.length), (90, fns fs), (91, .int .i64 fs.length), (92, .int .i64 (0))], [], hU fs, []⟩ : St) = some (.ret, st) ∧ ResAt 2 1 3 (flt3 3 j ((badShape fs j).getD 0)) st | none => EV A (.loop (B_zCU 2)) (⟨[(0, unit fs), (1, .ptr 0 0 0 1), (2, .ptr 1 0 0 1), (3, .int .i64 t), (49, fns fs), (50, .int .i64 fs.length), (51, .int .i64 fs.length), (78, .int .i64 fs.length), (79, .int .i64 fs.length), (90, fns fs), (91, .int .i64 fs.length), (92, .int .i64 (0))], [], hU fs, []⟩ : St) = some (AExit.exit 4, (⟨[(0, unit fs), (1, .ptr 0 0 0 1), (2, .ptr 1 0 0 1), (3, .int .i64 t), (49, fns fs), (50, .int .i64 fs.length), (51, .int .i64 fs.length), (78, .int .i64 fs.length), (79, .int .i64 fs.length), (90, fns fs), (91, .int .i64 fs.length), (92, .int .i64 (fs.length))], [], hU fs, []⟩ : St)) := by
  refine loop_seek (fun i => (⟨[(0, unit fs), (1, .ptr 0 0 0 1), (2, .ptr 1 0 0 1), (3, .int .i64 t), (49, fns fs), (50, .int .i64 fs.length), (51, .int .i64 fs.length), (78, .int .i64 fs.length), (79, .int .i64 fs.length), (90, fns fs), (91, .int .i64 fs.length), (92, .int .i64 i)], [], hU fs, []⟩ : St)) (fun (j : Int) => badShape fs j ≠ none) (fun (j : Int) (st : St) => ResAt 2 1 3 (flt3 3 j ((badShape fs j).getD 0)) st) (AExit.exit 4, (⟨[(0, unit fs), (1, .ptr 0 0 0 1), (2, .ptr 1 0 0 1), (3, .int .i64 t), (49, fns fs), (50, .int .i64 fs.length), (51, .int .i64 fs.length), (78, .int .i64 fs.length), (79, .int .i64 fs.length), (90, fns fs), (91, .int .i64 fs.length), (92, .int .i64 (fs.length))], [], hU fs, []⟩ : St)) (0) (fs.length) ?_ ?_ ?_ (0) (by omega) (by omega)
  · intro i hi hn hp
    try simp only [Classical.not_not] at hp
    have hl := li_3 fs t i (nth fs i) hb (hs i).2.2.2 (hs i).2.2.1
    have hp' : badShape fs i = none := (by simpa using hp); unfold badShape at hp'; rw [hp'] at hl
    refine ⟨_, by simp -implicitDefEqProofs +contextual (disch := omega) only [ub_zCU_2, rr_zCU, ↓XD, XU, ↓reduceIte, sevalprocAttr, hU, unit, fns, Fn.cells, nodes, hl, hn, hp]; rfl, by first | (simp [St.next, trim_all]; done) | (simp [St.next, trim_all]; omega) | (simp [St.next, trim, bare, refsL, refs]; done)⟩
  · intro i hi hn hp
    have hl := li_3 fs t i (nth fs i) hb (hs i).2.2.2 (hs i).2.2.1
    obtain ⟨k, hk⟩ := Option.ne_none_iff_exists'.1 hp; unfold badShape at hk; rw [hk] at hl; obtain ⟨st, hl, hg⟩ := hl
    refine ⟨_, by simp -implicitDefEqProofs +contextual (disch := omega) only [ub_zCU_2, rr_zCU, ↓XD, XU, ↓reduceIte, sevalprocAttr, hU, unit, fns, Fn.cells, nodes, hl, hn, hp]; rfl, by unfold badShape; rw [hk]; exact hg⟩
  · rintro i hi rfl
    refine ⟨by simp -implicitDefEqProofs +contextual (disch := omega) only [ub_zCU_2, rr_zCU, ↓XD, XU, ↓reduceIte, sevalprocAttr, hU, unit, fns, Fn.cells, nodes, Int.lt_irrefl], by simp⟩
abbrev gUse (kids : List Int) (j : Int) (a : List Int) : List Int := a.set (nth kids j).toNat (nth a (nth kids j) + 1)
theorem li_6 (fs : List Fn) (f : Fn) (t fi n : Int) (nd : Node) (hb : f.Nodes.length ≤ 1048576) (hkb : nd.Kids.length ≤ 1048576) (hn0 : 0 ≤ n) (hn1 : n < 1048576) (hk : ∀ i : Int, 0 ≤ i → i < nd.Kids.length → 0 ≤ nth nd.Kids i ∧ nth nd.Kids i < f.Nodes.length) (a0 : List Int) (hok0 : a0.length = f.Nodes.length ∧ ∀ k : Int, 0 ≤ nth a0 k ∧ nth a0 k ≤ n * 1048576 + (0)) : EV A (.loop (B_zCU 6)) (⟨[(0, unit fs), (1, .ptr 0 0 0 1), (2, .ptr 1 0 0 1), (3, .int .i64 t), (49, fns fs), (50, .int .i64 fs.length), (51, .int .i64 fs.length), (78, .int .i64 fs.length), (79, .int .i64 fs.length), (90, fns fs), (91, .int .i64 fs.length), (92, .int .i64 fs.length), (113, fns fs), (114, .int .i64 fs.length), (115, .int .i64 fi), (11, .ptr 2 0 0 1), (10, .int .i64 fi), (12, .sl 3 0 f.Nodes.length f.Nodes.length), (125, nodes f.Nodes), (126, .int .i64 f.Nodes.length), (127, .int .i64 n), (14, .ptr 4 0 0 1), (132, ints nd.Kids), (133, .int .i64 nd.Kids.length), (134, .int .i64 (0))], [], [.cells 1 [[fns fs]], .cells 3 [[.int .i64 0, .int .i64 0, .int .i64 0]], .cells 7 [f.cells], .cells 1 (il a0), .cells 8 [nd.cells]], []⟩ : St) = some (AExit.exit 12, (⟨[(0, unit fs), (1, .ptr 0 0 0 1), (2, .ptr 1 0 0 1), (3, .int .i64 t), (49, fns fs), (50, .int .i64 fs.length), (51, .int .i64 fs.length), (78, .int .i64 fs.length), (79, .int .i64 fs.length), (90, fns fs), (91, .int .i64 fs.length), (92, .int .i64 fs.length), (113, fns fs), (114, .int .i64 fs.length), (115, .int .i64 fi), (11, .ptr 2 0 0 1), (10, .int .i64 fi), (12, .sl 3 0 f.Nodes.length f.Nodes.length), (125, nodes f.Nodes), (126, .int .i64 f.Nodes.length), (127, .int .i64 n), (14, .ptr 4 0 0 1), (132, ints nd.Kids), (133, .int .i64 nd.Kids.length), (134, .int .i64 (nd.Kids.length))], [], [.cells 1 [[fns fs]], .cells 3 [[.int .i64 0, .int .i64 0, .int .i64 0]], .cells 7 [f.cells], .cells 1 (il (iter (fun (i : Int) (a : List Int) => gUse nd.Kids i a) ((nd.Kids.length : Int) - 0).toNat (0) a0)), .cells 8 [nd.cells]], []⟩ : St)) ∧ (iter (fun (i : Int) (a : List Int) => gUse nd.Kids i a) ((nd.Kids.length : Int) - 0).toNat (0) a0).length = f.Nodes.length ∧ ∀ k : Int, 0 ≤ nth (iter (fun (i : Int) (a : List Int) => gUse nd.Kids i a) ((nd.Kids.length : Int) - 0).toNat (0) a0) k ∧ nth (iter (fun (i : Int) (a : List Int) => gUse nd.Kids i a) ((nd.Kids.length : Int) - 0).toNat (0) a0) k ≤ n * 1048576 + (nd.Kids.length) := by
  refine loop_iter (fun i (a : List Int) => (⟨[(0, unit fs), (1, .ptr 0 0 0 1), (2, .ptr 1 0 0 1), (3, .int .i64 t), (49, fns fs), (50, .int .i64 fs.length), (51, .int .i64 fs.length), (78, .int .i64 fs.length), (79, .int .i64 fs.length), (90, fns fs), (91, .int .i64 fs.length), (92, .int .i64 fs.length), (113, fns fs), (114, .int .i64 fs.length), (115, .int .i64 fi), (11, .ptr 2 0 0 1), (10, .int .i64 fi), (12, .sl 3 0 f.Nodes.length f.Nodes.length), (125, nodes f.Nodes), (126, .int .i64 f.Nodes.length), (127, .int .i64 n), (14, .ptr 4 0 0 1), (132, ints nd.Kids), (133, .int .i64 nd.Kids.length), (134, .int .i64 i)], [], [.cells 1 [[fns fs]], .cells 3 [[.int .i64 0, .int .i64 0, .int .i64 0]], .cells 7 [f.cells], .cells 1 (il a), .cells 8 [nd.cells]], []⟩ : St)) (fun (i : Int) (a : List Int) => gUse nd.Kids i a) (fun i (a : List Int) => a.length = f.Nodes.length ∧ ∀ k : Int, 0 ≤ nth a k ∧ nth a k ≤ n * 1048576 + i) (fun a => (AExit.exit 12, (⟨[(0, unit fs), (1, .ptr 0 0 0 1), (2, .ptr 1 0 0 1), (3, .int .i64 t), (49, fns fs), (50, .int .i64 fs.length), (51, .int .i64 fs.length), (78, .int .i64 fs.length), (79, .int .i64 fs.length), (90, fns fs), (91, .int .i64 fs.length), (92, .int .i64 fs.length), (113, fns fs), (114, .int .i64 fs.length), (115, .int .i64 fi), (11, .ptr 2 0 0 1), (10, .int .i64 fi), (12, .sl 3 0 f.Nodes.length f.Nodes.length), (125, nodes f.Nodes), (126, .int .i64 f.Nodes.length), (127, .int .i64 n), (14, .ptr 4 0 0 1), (132, ints nd.Kids), (133, .int .i64 nd.Kids.length), (134, .int .i64 (nd.Kids.length))], [], [.cells 1 [[fns fs]], .cells 3 [[.int .i64 0, .int .i64 0, .int .i64 0]], .cells 7 [f.cells], .cells 1 (il a), .cells 8 [nd.cells]], []⟩ : St))) (0) (nd.Kids.length) ?_ ?_ (0) a0 (by omega) (by omega) hok0
  · intro i a hi hn hok
    have hk1 := hk i hi hn; have hk2 := hok.2 (nth nd.Kids i); have hok1 := hok.1
    refine ⟨⟨_, by simp -implicitDefEqProofs +contextual (disch := omega) only [ub_zCU_6, rr_zCU, ↓XD, XU, ↓reduceIte, sevalprocAttr, il, gUse, hok1, hn, hok]; rfl, by first | (simp [St.next, trim_all]; done) | (simp [St.next, trim_all]; omega) | (simp [St.next, trim, bare, refsL, refs]; done)⟩, by exact ⟨by simpa using hok.1, fun k => by have h1 := hok.2 k; have h2 := hok.2 0; have e : ∀ l : List Int, ¬0 ≤ k → nth l k = nth l 0 := (fun l h => by simp [nth, show k.toNat = 0 by omega]); by_cases hk0 : 0 ≤ k; (rw [gUse, nth_set hk1.1 (by omega) hk0]; split <;> omega); (rw [e _ hk0, gUse, nth_set hk1.1 (by omega) (by omega)]; split <;> omega)⟩⟩
  · rintro i a hi rfl hok
    refine ⟨by simp -implicitDefEqProofs +contextual (disch := omega) only [ub_zCU_6, rr_zCU, ↓XD, XU, ↓reduceIte, sevalprocAttr, il, gUse, Int.lt_irrefl, hok], by simp⟩
theorem li_5 (fs : List Fn) (f : Fn) (t fi : Int) (hb : f.Nodes.length ≤ 1048576) (hsz : Sized f.Nodes) (hki : KidsIn f.Nodes) (a0 : List Int) (hok0 : a0.length = f.Nodes.length ∧ ∀ k : Int, 0 ≤ nth a0 k ∧ nth a0 k ≤ (0) * 1048576) : EV A (.loop (B_zCU 5)) (⟨[(0, unit fs), (1, .ptr 0 0 0 1), (2, .ptr 1 0 0 1), (3, .int .i64 t), (49, fns fs), (50, .int .i64 fs.length), (51, .int .i64 fs.length), (78, .int .i64 fs.length), (79, .int .i64 fs.length), (90, fns fs), (91, .int .i64 fs.length), (92, .int .i64 fs.length), (113, fns fs), (114, .int .i64 fs.length), (115, .int .i64 fi), (11, .ptr 2 0 0 1), (10, .int .i64 fi), (12, .sl 3 0 f.Nodes.length f.Nodes.length), (125, nodes f.Nodes), (126, .int .i64 f.Nodes.length), (127, .int .i64 (0))], [], [.cells 1 [[fns fs]], .cells 3 [[.int .i64 0, .int .i64 0, .int .i64 0]], .cells 7 [f.cells], .cells 1 (il a0)], []⟩ : St) = some (AExit.exit 10, (⟨[(0, unit fs), (1, .ptr 0 0 0 1), (2, .ptr 1 0 0 1), (3, .int .i64 t), (49, fns fs), (50, .int .i64 fs.length), (51, .int .i64 fs.length), (78, .int .i64 fs.length), (79, .int .i64 fs.length), (90, fns fs), (91, .int .i64 fs.length), (92, .int .i64 fs.length), (113, fns fs), (114, .int .i64 fs.length), (115, .int .i64 fi), (11, .ptr 2 0 0 1), (10, .int .i64 fi), (12, .sl 3 0 f.Nodes.length f.Nodes.length), (125, nodes f.Nodes), (126, .int .i64 f.Nodes.length), (127, .int .i64 (f.Nodes.length))], [], [.cells 1 [[fns fs]], .cells 3 [[.int .i64 0, .int .i64 0, .int .i64 0]], .cells 7 [f.cells], .cells 1 (il (iter (fun (i : Int) (a : List Int) => iter (gUse (nth f.Nodes i).Kids) (((nth f.Nodes i).Kids.length : Int) - 0).toNat 0 a) ((f.Nodes.length : Int) - 0).toNat (0) a0))], []⟩ : St)) ∧ (iter (fun (i : Int) (a : List Int) => iter (gUse (nth f.Nodes i).Kids) (((nth f.Nodes i).Kids.length : Int) - 0).toNat 0 a) ((f.Nodes.length : Int) - 0).toNat (0) a0).length = f.Nodes.length ∧ ∀ k : Int, 0 ≤ nth (iter (fun (i : Int) (a : List Int) => iter (gUse (nth f.Nodes i).Kids) (((nth f.Nodes i).Kids.length : Int) - 0).toNat 0 a) ((f.Nodes.length : Int) - 0).toNat (0) a0) k ∧ nth (iter (fun (i : Int) (a : List Int) => iter (gUse (nth f.Nodes i).Kids) (((nth f.Nodes i).Kids.length : Int) - 0).toNat 0 a) ((f.Nodes.length : Int) - 0).toNat (0) a0) k ≤ (f.Nodes.length) * 1048576 := by
  refine loop_iter (fun i (a : List Int) => (⟨[(0, unit fs), (1, .ptr 0 0 0 1), (2, .ptr 1 0 0 1), (3, .int .i64 t), (49, fns fs), (50, .int .i64 fs.length), (51, .int .i64 fs.length), (78, .int .i64 fs.length), (79, .int .i64 fs.length), (90, fns fs), (91, .int .i64 fs.length), (92, .int .i64 fs.length), (113, fns fs), (114, .int .i64 fs.length), (115, .int .i64 fi), (11, .ptr 2 0 0 1), (10, .int .i64 fi), (12, .sl 3 0 f.Nodes.length f.Nodes.length), (125, nodes f.Nodes), (126, .int .i64 f.Nodes.length), (127, .int .i64 i)], [], [.cells 1 [[fns fs]], .cells 3 [[.int .i64 0, .int .i64 0, .int .i64 0]], .cells 7 [f.cells], .cells 1 (il a)], []⟩ : St)) (fun (i : Int) (a : List Int) => iter (gUse (nth f.Nodes i).Kids) (((nth f.Nodes i).Kids.length : Int) - 0).toNat 0 a) (fun i (a : List Int) => a.length = f.Nodes.length ∧ ∀ k : Int, 0 ≤ nth a k ∧ nth a k ≤ i * 1048576) (fun a => (AExit.exit 10, (⟨[(0, unit fs), (1, .ptr 0 0 0 1), (2, .ptr 1 0 0 1), (3, .int .i64 t), (49, fns fs), (50, .int .i64 fs.length), (51, .int .i64 fs.length), (78, .int .i64 fs.length), (79, .int .i64 fs.length), (90, fns fs), (91, .int .i64 fs.length), (92, .int .i64 fs.length), (113, fns fs), (114, .int .i64 fs.length), (115, .int .i64 fi), (11, .ptr 2 0 0 1), (10, .int .i64 fi), (12, .sl 3 0 f.Nodes.length f.Nodes.length), (125, nodes f.Nodes), (126, .int .i64 f.Nodes.length), (127, .int .i64 (f.Nodes.length))], [], [.cells 1 [[fns fs]], .cells 3 [[.int .i64 0, .int .i64 0, .int .i64 0]], .cells 7 [f.cells], .cells 1 (il a)], []⟩ : St))) (0) (f.Nodes.length) ?_ ?_ (0) a0 (by omega) (by omega) hok0
  · intro i a hi hn hok
    have hl := li_6 fs f t fi i (nth f.Nodes i) hb (hsz i).2 hi (by omega) (fun j j0 j1 => by have := hki i hi hn j j0 j1; omega) a ⟨hok.1, fun k => by have := hok.2 k; omega⟩; have hl1 := hl.1; have hl2 := hl.2; have hkl := (hsz i).2
    refine ⟨⟨_, by simp -implicitDefEqProofs +contextual (disch := omega) only [ub_zCU_5, rr_zCU, ↓XD, XU, ↓reduceIte, sevalprocAttr, il, nodes, Node.cells, Fn.cells, strs, ups, ints, hl1, hn, hok]; rfl, by first | (simp [St.next, trim_all]; done) | (simp [St.next, trim_all]; omega) | (simp [St.next, trim, bare, refsL, refs]; done)⟩, by exact ⟨hl2.1, fun k => ⟨(hl2.2 k).1, Int.le_trans (hl2.2 k).2 (by omega)⟩⟩⟩
  · rintro i a hi rfl hok
    refine ⟨by simp -implicitDefEqProofs +contextual (disch := omega) only [ub_zCU_5, rr_zCU, ↓XD, XU, ↓reduceIte, sevalprocAttr, il, nodes, Node.cells, Fn.cells, strs, ups, ints, Int.lt_irrefl, hok], by simp⟩
def used (ns : List Node) : List Int := iter (fun (i : Int) (a : List Int) => iter (gUse (nth ns i).Kids) (((nth ns i).Kids.length : Int) - 0).toNat 0 a) ((ns.length : Int) - 0).toNat 0 (List.replicate ns.length 0)
abbrev bad4i (ns : List Node) (n : Int) : Prop := (n < (ns.length : Int) - 1 ∧ ¬nth (used ns) n = 1) ∨ (n = (ns.length : Int) - 1 ∧ ¬(nth ns ((ns.length : Int) - 1)).Kind = 1)
theorem li_7 (fs : List Fn) (f : Fn) (t fi : Int) (hb : f.Nodes.length ≤ 1048576) (hu : (used f.Nodes).length = f.Nodes.length) : match seek (fun (j : Int) => bad4i f.Nodes j) 0 f.Nodes.length with | some j => ∃ st, EV A (.loop (B_zCU 7)) (⟨[(0, unit fs), (1, .ptr 0 0 0 1), (2, .ptr 1 0 0 1), (3, .int .i64 t), (49, fns fs), (50, .int .i64 fs.length), (51, .int .i64 fs.length), (78, .int .i64 fs.length), (79, .int .i64 fs.length), (90, fns fs), (91, .int .i64 fs.length), (92, .int .i64 fs.length), (113, fns fs), (114, .int .i64 fs.length), (115, .int .i64 fi), (11, .ptr 2 0 0 1), (10, .int .i64 fi), (12, .sl 3 0 f.Nodes.length f.Nodes.length), (125, nodes f.Nodes), (126, .int .i64 f.Nodes.length), (127, .int .i64 f.Nodes.length), (17, .int .i64 (f.Nodes.length - 1)), (152, .int .i64 f.Nodes.length), (153, .int .i64 (0))], [], [.cells 1 [[fns fs]], .cells 3 [[.int .i64 0, .int .i64 0, .int .i64 0]], .cells 7 [f.cells], .cells 1 (il (used f.Nodes))], []⟩ : St) = some (.ret, st) ∧ ResAt 2 1 3 (flt3 4 fi j) st | none => EV A (.loop (B_zCU 7)) (⟨[(0, unit fs), (1, .ptr 0 0 0 1), (2, .ptr 1 0 0 1), (3, .int .i64 t), (49, fns fs), (50, .int .i64 fs.length), (51, .int .i64 fs.length), (78, .int .i64 fs.length), (79, .int .i64 fs.length), (90, fns fs), (91, .int .i64 fs.length), (92, .int .i64 fs.length), (113, fns fs), (114, .int .i64 fs.length), (115, .int .i64 fi), (11, .ptr 2 0 0 1), (10, .int .i64 fi), (12, .sl 3 0 f.Nodes.length f.Nodes.length), (125, nodes f.Nodes), (126, .int .i64 f.Nodes.length), (127, .int .i64 f.Nodes.length), (17, .int .i64 (f.Nodes.length - 1)), (152, .int .i64 f.Nodes.length), (153, .int .i64 (0))], [], [.cells 1 [[fns fs]], .cells 3 [[.int .i64 0, .int .i64 0, .int .i64 0]], .cells 7 [f.cells], .cells 1 (il (used f.Nodes))], []⟩ : St) = some (AExit.exit 14, (⟨[(0, unit fs), (1, .ptr 0 0 0 1), (2, .ptr 1 0 0 1), (3, .int .i64 t), (49, fns fs), (50, .int .i64 fs.length), (51, .int .i64 fs.length), (78, .int .i64 fs.length), (79, .int .i64 fs.length), (90, fns fs), (91, .int .i64 fs.length), (92, .int .i64 fs.length), (113, fns fs), (114, .int .i64 fs.length), (115, .int .i64 fi), (11, .ptr 2 0 0 1), (10, .int .i64 fi), (12, .sl 3 0 f.Nodes.length f.Nodes.length), (125, nodes f.Nodes), (126, .int .i64 f.Nodes.length), (127, .int .i64 f.Nodes.length), (17, .int .i64 (f.Nodes.length - 1)), (152, .int .i64 f.Nodes.length), (153, .int .i64 (f.Nodes.length))], [], [.cells 1 [[fns fs]], .cells 3 [[.int .i64 0, .int .i64 0, .int .i64 0]], .cells 7 [f.cells], .cells 1 (il (used f.Nodes))], []⟩ : St)) := by
  refine loop_seek (fun i => (⟨[(0, unit fs), (1, .ptr 0 0 0 1), (2, .ptr 1 0 0 1), (3, .int .i64 t), (49, fns fs), (50, .int .i64 fs.length), (51, .int .i64 fs.length), (78, .int .i64 fs.length), (79, .int .i64 fs.length), (90, fns fs), (91, .int .i64 fs.length), (92, .int .i64 fs.length), (113, fns fs), (114, .int .i64 fs.length), (115, .int .i64 fi), (11, .ptr 2 0 0 1), (10, .int .i64 fi), (12, .sl 3 0 f.Nodes.length f.Nodes.length), (125, nodes f.Nodes), (126, .int .i64 f.Nodes.length), (127, .int .i64 f.Nodes.length), (17, .int .i64 (f.Nodes.length - 1)), (152, .int .i64 f.Nodes.length), (153, .int .i64 i)], [], [.cells 1 [[fns fs]], .cells 3 [[.int .i64 0, .int .i64 0, .int .i64 0]], .cells 7 [f.cells], .cells 1 (il (used f.Nodes))], []⟩ : St)) (fun (j : Int) => bad4i f.Nodes j) (fun (j : Int) (st : St) => ResAt 2 1 3 (flt3 4 fi j) st) (AExit.exit 14, (⟨[(0, unit fs), (1, .ptr 0 0 0 1), (2, .ptr 1 0 0 1), (3, .int .i64 t), (49, fns fs), (50, .int .i64 fs.length), (51, .int .i64 fs.length), (78, .int .i64 fs.length), (79, .int .i64 fs.length), (90, fns fs), (91, .int .i64 fs.length), (92, .int .i64 fs.length), (113, fns fs), (114, .int .i64 fs.length), (115, .int .i64 fi), (11, .ptr 2 0 0 1), (10, .int .i64 fi), (12, .sl 3 0 f.Nodes.length f.Nodes.length), (125, nodes f.Nodes), (126, .int .i64 f.Nodes.length), (127, .int .i64 f.Nodes.length), (17, .int .i64 (f.Nodes.length - 1)), (152, .int .i64 f.Nodes.length), (153, .int .i64 (f.Nodes.length))], [], [.cells 1 [[fns fs]], .cells 3 [[.int .i64 0, .int .i64 0, .int .i64 0]], .cells 7 [f.cells], .cells 1 (il (used f.Nodes))], []⟩ : St)) (0) (f.Nodes.length) ?_ ?_ ?_ (0) (by omega) (by omega)
  · intro i hi hn hp
    simp only [bad4i] at hp; have hL1 : (f.Nodes.length : Int) - 1 < f.Nodes.length := (by omega); have hL2 : ¬(f.Nodes.length : Int) - 1 < f.Nodes.length - 1 := (by omega)
    by_cases hL : i = (f.Nodes.length : Int) - 1
    · subst hL
      have hK : (nth f.Nodes ((f.Nodes.length : Int) - 1)).Kind = 1 := Classical.not_not.1 (fun h => hp (.inr ⟨rfl, h⟩))
      refine ⟨_, by (simp -implicitDefEqProofs +contextual (disch := omega) only [ub_zCU_7, rr_zCU, il, nodes, Node.cells, Fn.cells, strs, ups, ints, hu, ↓XD, XU, ↓reduceIte, sevalprocAttr, hn, hK, hL1, hL2]) <;> rfl, by simp [St.next, trim_all]⟩
    · have hU : nth (used f.Nodes) i = 1 := Classical.not_not.1 (fun h => hp (.inl ⟨by omega, h⟩))
      refine ⟨_, by (simp -implicitDefEqProofs +contextual (disch := omega) only [ub_zCU_7, rr_zCU, il, nodes, Node.cells, Fn.cells, strs, ups, ints, hu, ↓XD, XU, ↓reduceIte, sevalprocAttr, hn, hU, hL]) <;> rfl, by simp [St.next, trim_all]⟩
  · intro i hi hn hp
    simp only [bad4i] at hp; have hL1 : (f.Nodes.length : Int) - 1 < f.Nodes.length := (by omega); have hL2 : ¬(f.Nodes.length : Int) - 1 < f.Nodes.length - 1 := (by omega)
    by_cases hL : i = (f.Nodes.length : Int) - 1
    · subst hL
      have hK : ¬(nth f.Nodes ((f.Nodes.length : Int) - 1)).Kind = 1 := fun h => by rcases hp with h1 | h1; omega; exact h1.2 h
      refine ⟨_, by (simp -implicitDefEqProofs +contextual (disch := omega) only [ub_zCU_7, rr_zCU, il, nodes, Node.cells, Fn.cells, strs, ups, ints, hu, ↓XD, XU, ↓reduceIte, sevalprocAttr, hn, hK, hL1, hL2]) <;> rfl, by simp [ResAt, Env.get, Env.put]⟩
    · have hU : ¬nth (used f.Nodes) i = 1 := fun h => by rcases hp with h1 | h1; exact h1.2 h; exact hL h1.1
      have hL3 : i < (f.Nodes.length : Int) - 1 := by omega
      refine ⟨_, by (simp -implicitDefEqProofs +contextual (disch := omega) only [ub_zCU_7, rr_zCU, il, nodes, Node.cells, Fn.cells, strs, ups, ints, hu, ↓XD, XU, ↓reduceIte, sevalprocAttr, hn, hU, hL, hL3]) <;> rfl, by simp [ResAt, Env.get, Env.put]⟩
  · rintro i hi rfl
    refine ⟨by simp -implicitDefEqProofs +contextual (disch := omega) only [ub_zCU_7, rr_zCU, ↓XD, XU, ↓reduceIte, sevalprocAttr, il, nodes, Node.cells, Fn.cells, strs, ups, ints, hu, Int.lt_irrefl], by simp⟩
theorem used_length (ns : List Node) : (used ns).length = ns.length := by
  rw [used, iter_length (fun i a => iter_length (fun j b => by simp [gUse]) _ _ _)]; simp
noncomputable abbrev badUse (fs : List Fn) (j : Int) : Option Int := seek (fun n => bad4i (nth fs j).Nodes n) 0 (nth fs j).Nodes.length
end Go.Proofs.Try.Av
end
section
attribute [local congr] ite_congr
set_option maxRecDepth 10000
set_option maxHeartbeats 400000
namespace Go.Proofs.Try.Av
open Go Go.Av Classical
theorem rep_zero (n : Nat) (k : Int) : nth (List.replicate n (0 : Int)) k = 0 := by
  simp only [nth, List.getD, List.getElem?_replicate]; split <;> rfl
theorem li_5u (fs : List Fn) (f : Fn) (t fi : Int) (hg : GrowOk f.Nodes) : EV A (.loop (B_zCU 5)) (⟨[(0, unit fs), (1, .ptr 0 0 0 1), (2, .ptr 1 0 0 1), (3, .int .i64 t), (49, fns fs), (50, .int .i64 fs.length), (51, .int .i64 fs.length), (78, .int .i64 fs.length), (79, .int .i64 fs.length), (90, fns fs), (91, .int .i64 fs.length), (92, .int .i64 fs.length), (113, fns fs), (114, .int .i64 fs.length), (115, .int .i64 fi), (11, .ptr 2 0 0 1), (10, .int .i64 fi), (12, .sl 3 0 f.Nodes.length f.Nodes.length), (125, nodes f.Nodes), (126, .int .i64 f.Nodes.length), (127, .int .i64 0)], [], [.cells 1 [[fns fs]], .cells 3 [[.int .i64 0, .int .i64 0, .int .i64 0]], .cells 7 [f.cells], .cells 1 (il (List.replicate f.Nodes.length 0))], []⟩ : St) = some (AExit.exit 10, (⟨[(0, unit fs), (1, .ptr 0 0 0 1), (2, .ptr 1 0 0 1), (3, .int .i64 t), (49, fns fs), (50, .int .i64 fs.length), (51, .int .i64 fs.length), (78, .int .i64 fs.length), (79, .int .i64 fs.length), (90, fns fs), (91, .int .i64 fs.length), (92, .int .i64 fs.length), (113, fns fs), (114, .int .i64 fs.length), (115, .int .i64 fi), (11, .ptr 2 0 0 1), (10, .int .i64 fi), (12, .sl 3 0 f.Nodes.length f.Nodes.length), (125, nodes f.Nodes), (126, .int .i64 f.Nodes.length), (127, .int .i64 f.Nodes.length)], [], [.cells 1 [[fns fs]], .cells 3 [[.int .i64 0, .int .i64 0, .int .i64 0]], .cells 7 [f.cells], .cells 1 (il (used f.Nodes))], []⟩ : St)) :=
  (li_5 fs f t fi hg.hb hg.hsz hg.hki (List.replicate f.Nodes.length 0) ⟨by simp, fun k => by rw [rep_zero]; omega⟩).1
theorem li_4 (fs : List Fn) (t : Int) (hb : fs.length ≤ 1048576) (hG : ∀ f : Int, 0 ≤ f → f < fs.length → GrowOk (nth fs f).Nodes) : match seek (fun (j : Int) => badUse fs j ≠ none) 0 fs.length with | some j => ∃ st, EV A (.loop (B_zCU 4)) (⟨[(0, unit fs), (1, .ptr 0 0 0 1), (2, .ptr 1 0 0 1), (3, .int .i64 t), (49, fns fs), (50, .int .i64 fs.length), (51, .int .i64 fs.length), (78, .int .i64 fs.length), (79, .int .i64 fs.length), (90, fns fs), (91, .int .i64 fs.length), (92, .int .i64 fs.length), (113, fns fs), (114, .int .i64 fs.length), (115, .int .i64 (0))], [], hU fs, []⟩ : St) = some (.ret, st) ∧ ResAt 2 1 3 (flt3 4 j ((badUse fs j).getD 0)) st | none => EV A (.loop (B_zCU 4)) (⟨[(0, unit fs), (1, .ptr 0 0 0 1), (2, .ptr 1 0 0 1), (3, .int .i64 t), (49, fns fs), (50, .int .i64 fs.length), (51, .int .i64 fs.length), (78, .int .i64 fs.length), (79, .int .i64 fs.length), (90, fns fs), (91, .int .i64 fs.length), (92, .int .i64 fs.length), (113, fns fs), (114, .int .i64 fs.length), (115, .int .i64 (0))], [], hU fs, []⟩ : St) = some (AExit.exit 8, (⟨[(0, unit fs), (1, .ptr 0 0 0 1), (2, .ptr 1 0 0 1), (3, .int .i64 t), (49, fns fs), (50, .int .i64 fs.length), (51, .int .i64 fs.length), (78, .int .i64 fs.length), (79, .int .i64 fs.length), (90, fns fs), (91, .int .i64 fs.length), (92, .int .i64 fs.length), (113, fns fs), (114, .int .i64 fs.length), (115, .int .i64 (fs.length))], [], hU fs, []⟩ : St)) := by
  refine loop_seek (fun i => (⟨[(0, unit fs), (1, .ptr 0 0 0 1), (2, .ptr 1 0 0 1), (3, .int .i64 t), (49, fns fs), (50, .int .i64 fs.length), (51, .int .i64 fs.length), (78, .int .i64 fs.length), (79, .int .i64 fs.length), (90, fns fs), (91, .int .i64 fs.length), (92, .int .i64 fs.length), (113, fns fs), (114, .int .i64 fs.length), (115, .int .i64 i)], [], hU fs, []⟩ : St)) (fun (j : Int) => badUse fs j ≠ none) (fun (j : Int) (st : St) => ResAt 2 1 3 (flt3 4 j ((badUse fs j).getD 0)) st) (AExit.exit 8, (⟨[(0, unit fs), (1, .ptr 0 0 0 1), (2, .ptr 1 0 0 1), (3, .int .i64 t), (49, fns fs), (50, .int .i64 fs.length), (51, .int .i64 fs.length), (78, .int .i64 fs.length), (79, .int .i64 fs.length), (90, fns fs), (91, .int .i64 fs.length), (92, .int .i64 fs.length), (113, fns fs), (114, .int .i64 fs.length), (115, .int .i64 (fs.length))], [], hU fs, []⟩ : St)) (0) (fs.length) ?_ ?_ ?_ (0) (by omega) (by omega)
  · intro i hi hn hp
    have hg := hG i hi hn; have hg1 := hg.hb; have hg2 := hg.h1; have h5 := li_5u fs (nth fs i) t i hg; have hl := li_7 fs (nth fs i) t i hg.hb (used_length _)
    have hp' : badUse fs i = none := by simpa using hp
    unfold badUse at hp'
    rw [hp'] at hl
    refine ⟨_, by (simp -implicitDefEqProofs +contextual (disch := omega) only [ub_zCU_4, rr_zCU, hU, unit, fns, Fn.cells, nodes, strs, ups, ↓XD, XU, ↓reduceIte, sevalprocAttr, hn, h5, hl]) <;> rfl, by simp [St.next, trim, bare, refsL, refs]⟩
  · intro i hi hn hp
    have hg := hG i hi hn; have hg1 := hg.hb; have hg2 := hg.h1; have h5 := li_5u fs (nth fs i) t i hg; have hl := li_7 fs (nth fs i) t i hg.hb (used_length _)
    obtain ⟨k, hk⟩ := Option.ne_none_iff_exists'.1 hp
    unfold badUse at hk
    rw [hk] at hl
    obtain ⟨st, hl, hg⟩ := hl
    refine ⟨_, by (simp -implicitDefEqProofs +contextual (disch := omega) only [ub_zCU_4, rr_zCU, hU, unit, fns, Fn.cells, nodes, strs, ups, ↓XD, XU, ↓reduceIte, sevalprocAttr, hn, h5, hl]) <;> rfl, by unfold badUse; rw [hk]; exact hg⟩
  · rintro i hi rfl
    refine ⟨by simp -implicitDefEqProofs +contextual (disch := omega) only [ub_zCU_4, rr_zCU, ↓XD, XU, ↓reduceIte, sevalprocAttr, hU, unit, fns, Fn.cells, nodes, strs, ups, Int.lt_irrefl], by simp⟩
abbrev gDk (kids : List Int) (n j : Int) (a : List Int) : List Int := a.set (nth kids j).toNat (nth a n + 1)
theorem nth_neg {l : List Int} {k : Int} (h : ¬0 ≤ k) : nth l k = nth l 0 := by simp [nth, show k.toNat = 0 by omega]
theorem set_bound {a : List Int} {i v B : Int} (i0 : 0 ≤ i) (i1 : i < a.length) (hv : 0 ≤ v ∧ v ≤ B) (h : ∀ k : Int, 0 ≤ nth a k ∧ nth a k ≤ B) (k : Int) : 0 ≤ nth (a.set i.toNat v) k ∧ nth (a.set i.toNat v) k ≤ B := by
  by_cases hk : 0 ≤ k
  · rw [nth_set i0 i1 hk]; split
    · exact hv
    · exact h k
  · rw [nth_neg hk, nth_set i0 i1 (by omega)]; split
    · exact hv
    · exact h 0
theorem li_10 (fs : List Fn) (f : Fn) (t fi n m : Int) (nd : List Int) (hb : f.Nodes.length ≤ 1048576) (hkb : nd.length ≤ 1048576) (hn0 : 0 ≤ n) (hn1 : n < f.Nodes.length) (hm0 : 0 ≤ m) (hm : m ≤ 1048576) (hk : ∀ i : Int, 0 ≤ i → i < nd.length → 0 ≤ nth nd i ∧ nth nd i < n) (a0 : List Int) (hok0 : a0.length = f.Nodes.length ∧ (∀ k : Int, 0 ≤ nth a0 k ∧ nth a0 k ≤ m + 1) ∧ nth a0 n ≤ m) : EV A (.loop (B_zCU 10)) (⟨[(0, unit fs), (1, .ptr 0 0 0 1), (2, .ptr 1 0 0 1), (3, .int .i64 t), (49, fns fs), (50, .int .i64 fs.length), (51, .int .i64 fs.length), (78, .int .i64 fs.length), (79, .int .i64 fs.length), (90, fns fs), (91, .int .i64 fs.length), (92, .int .i64 fs.length), (113, fns fs), (114, .int .i64 fs.length), (115, .int .i64 fs.length), (186, fns fs), (187, .int .i64 fs.length), (188, .int .i64 fi), (20, .ptr 2 0 0 1), (19, .int .i64 fi), (21, .sl 3 0 f.Nodes.length f.Nodes.length), (22, .int .i64 n), (210, ints nd), (211, .int .i64 nd.length), (212, .int .i64 (0))], [], [.cells 1 [[fns fs]], .cells 3 [[.int .i64 0, .int .i64 0, .int .i64 0]], .cells 7 [f.cells], .cells 1 (il a0)], []⟩ : St) = some (AExit.exit 20, (⟨[(0, unit fs), (1, .ptr 0 0 0 1), (2, .ptr 1 0 0 1), (3, .int .i64 t), (49, fns fs), (50, .int .i64 fs.length), (51, .int .i64 fs.length), (78, .int .i64 fs.length), (79, .int .i64 fs.length), (90, fns fs), (91, .int .i64 fs.length), (92, .int .i64 fs.length), (113, fns fs), (114, .int .i64 fs.length), (115, .int .i64 fs.length), (186, fns fs), (187, .int .i64 fs.length), (188, .int .i64 fi), (20, .ptr 2 0 0 1), (19, .int .i64 fi), (21, .sl 3 0 f.Nodes.length f.Nodes.length), (22, .int .i64 n), (210, ints nd), (211, .int .i64 nd.length), (212, .int .i64 (nd.length))], [], [.cells 1 [[fns fs]], .cells 3 [[.int .i64 0, .int .i64 0, .int .i64 0]], .cells 7 [f.cells], .cells 1 (il (iter (fun (i : Int) (a : List Int) => gDk nd n i a) ((nd.length : Int) - 0).toNat (0) a0))], []⟩ : St)) ∧ (iter (fun (i : Int) (a : List Int) => gDk nd n i a) ((nd.length : Int) - 0).toNat (0) a0).length = f.Nodes.length ∧ (∀ k : Int, 0 ≤ nth (iter (fun (i : Int) (a : List Int) => gDk nd n i a) ((nd.length : Int) - 0).toNat (0) a0) k ∧ nth (iter (fun (i : Int) (a : List Int) => gDk nd n i a) ((nd.length : Int) - 0).toNat (0) a0) k ≤ m + 1) ∧ nth (iter (fun (i : Int) (a : List Int) => gDk nd n i a) ((nd.length : Int) - 0).toNat (0) a0) n ≤ m := by
  refine loop_iter (fun i (a : List Int) => (⟨[(0, unit fs), (1, .ptr 0 0 0 1), (2, .ptr 1 0 0 1), (3, .int .i64 t), (49, fns fs), (50, .int .i64 fs.length), (51, .int .i64 fs.length), (78, .int .i64 fs.length), (79, .int .i64 fs.length), (90, fns fs), (91, .int .i64 fs.length), (92, .int .i64 fs.length), (113, fns fs), (114, .int .i64 fs.length), (115, .int .i64 fs.length), (186, fns fs), (187, .int .i64 fs.length), (188, .int .i64 fi), (20, .ptr 2 0 0 1), (19, .int .i64 fi), (21, .sl 3 0 f.Nodes.length f.Nodes.length), (22, .int .i64 n), (210, ints nd), (211, .int .i64 nd.length), (212, .int .i64 i)], [], [.cells 1 [[fns fs]], .cells 3 [[.int .i64 0, .int .i64 0, .int .i64 0]], .cells 7 [f.cells], .cells 1 (il a)], []⟩ : St)) (fun (i : Int) (a : List Int) => gDk nd n i a) (fun i (a : List Int) => a.length = f.Nodes.length ∧ (∀ k : Int, 0 ≤ nth a k ∧ nth a k ≤ m + 1) ∧ nth a n ≤ m) (fun a => (AExit.exit 20, (⟨[(0, unit fs), (1, .ptr 0 0 0 1), (2, .ptr 1 0 0 1), (3, .int .i64 t), (49, fns fs), (50, .int .i64 fs.length), (51, .int .i64 fs.length), (78, .int .i64 fs.length), (79, .int .i64 fs.length), (90, fns fs), (91, .int .i64 fs.length), (92, .int .i64 fs.length), (113, fns fs), (114, .int .i64 fs.length), (115, .int .i64 fs.length), (186, fns fs), (187, .int .i64 fs.length), (188, .int .i64 fi), (20, .ptr 2 0 0 1), (19, .int .i64 fi), (21, .sl 3 0 f.Nodes.length f.Nodes.length), (22, .int .i64 n), (210, ints nd), (211, .int .i64 nd.length), (212, .int .i64 (nd.length))], [], [.cells 1 [[fns fs]], .cells 3 [[.int .i64 0, .int .i64 0, .int .i64 0]], .cells 7 [f.cells], .cells 1 (il a)], []⟩ : St))) (0) (nd.length) ?_ ?_ (0) a0 (by omega) (by omega) hok0
  · intro i a hi hn hok
    have hk1 := hk i hi hn; have hk2 := hok.2.1 n; have hk3 := hok.2.2; have hok1 := hok.1
    refine ⟨⟨_, by simp -implicitDefEqProofs +contextual (disch := omega) only [ub_zCU_10, rr_zCU, ↓XD, XU, ↓reduceIte, sevalprocAttr, il, gDk, hok1, hn, hok]; rfl, by first | (simp [St.next, trim_all]; done) | (simp [St.next, trim_all]; omega) | (simp [St.next, trim, bare, refsL, refs]; done)⟩, by exact ⟨by simpa using hok.1, set_bound hk1.1 (by omega) (by omega) hok.2.1, by rw [gDk, nth_set hk1.1 (by omega) hn0, if_neg (by omega)]; exact hk3⟩⟩
  · rintro i a hi rfl hok
    refine ⟨by simp -implicitDefEqProofs +contextual (disch := omega) only [ub_zCU_10, rr_zCU, ↓XD, XU, ↓reduceIte, sevalprocAttr, il, gDk, Int.lt_irrefl, hok], by simp⟩
theorem li_9 (fs : List Fn) (f : Fn) (t fi : Int) (hb : f.Nodes.length ≤ 1048576) (hsz : Sized f.Nodes) (hki : KidsIn f.Nodes) (a0 : List Int) (hok0 : a0.length = f.Nodes.length ∧ ∀ k : Int, 0 ≤ nth a0 k ∧ nth a0 k ≤ (0)) : EV A (.loop (B_zCU 9)) (⟨[(0, unit fs), (1, .ptr 0 0 0 1), (2, .ptr 1 0 0 1), (3, .int .i64 t), (49, fns fs), (50, .int .i64 fs.length), (51, .int .i64 fs.length), (78, .int .i64 fs.length), (79, .int .i64 fs.length), (90, fns fs), (91, .int .i64 fs.length), (92, .int .i64 fs.length), (113, fns fs), (114, .int .i64 fs.length), (115, .int .i64 fs.length), (186, fns fs), (187, .int .i64 fs.length), (188, .int .i64 fi), (20, .ptr 2 0 0 1), (19, .int .i64 fi), (21, .sl 3 0 f.Nodes.length f.Nodes.length), (22, .int .i64 ((f.Nodes.length : Int) - 1 - (0)))], [], [.cells 1 [[fns fs]], .cells 3 [[.int .i64 0, .int .i64 0, .int .i64 0]], .cells 7 [f.cells], .cells 1 (il a0)], []⟩ : St) = some (AExit.exit 18, (⟨[(0, unit fs), (1, .ptr 0 0 0 1), (2, .ptr 1 0 0 1), (3, .int .i64 t), (49, fns fs), (50, .int .i64 fs.length), (51, .int .i64 fs.length), (78, .int .i64 fs.length), (79, .int .i64 fs.length), (90, fns fs), (91, .int .i64 fs.length), (92, .int .i64 fs.length), (113, fns fs), (114, .int .i64 fs.length), (115, .int .i64 fs.length), (186, fns fs), (187, .int .i64 fs.length), (188, .int .i64 fi), (20, .ptr 2 0 0 1), (19, .int .i64 fi), (21, .sl 3 0 f.Nodes.length f.Nodes.length), (22, .int .i64 ((f.Nodes.length : Int) - 1 - (f.Nodes.length)))], [], [.cells 1 [[fns fs]], .cells 3 [[.int .i64 0, .int .i64 0, .int .i64 0]], .cells 7 [f.cells], .cells 1 (il (iter (fun (i : Int) (a : List Int) => iter (gDk (nth f.Nodes ((f.Nodes.length : Int) - 1 - i)).Kids ((f.Nodes.length : Int) - 1 - i)) (((nth f.Nodes ((f.Nodes.length : Int) - 1 - i)).Kids.length : Int) - 0).toNat 0 a) ((f.Nodes.length : Int) - 0).toNat (0) a0))], []⟩ : St)) ∧ (iter (fun (i : Int) (a : List Int) => iter (gDk (nth f.Nodes ((f.Nodes.length : Int) - 1 - i)).Kids ((f.Nodes.length : Int) - 1 - i)) (((nth f.Nodes ((f.Nodes.length : Int) - 1 - i)).Kids.length : Int) - 0).toNat 0 a) ((f.Nodes.length : Int) - 0).toNat (0) a0).length = f.Nodes.length ∧ ∀ k : Int, 0 ≤ nth (iter (fun (i : Int) (a : List Int) => iter (gDk (nth f.Nodes ((f.Nodes.length : Int) - 1 - i)).Kids ((f.Nodes.length : Int) - 1 - i)) (((nth f.Nodes ((f.Nodes.length : Int) - 1 - i)).Kids.length : Int) - 0).toNat 0 a) ((f.Nodes.length : Int) - 0).toNat (0) a0) k ∧ nth (iter (fun (i : Int) (a : List Int) => iter (gDk (nth f.Nodes ((f.Nodes.length : Int) - 1 - i)).Kids ((f.Nodes.length : Int) - 1 - i)) (((nth f.Nodes ((f.Nodes.length : Int) - 1 - i)).Kids.length : Int) - 0).toNat 0 a) ((f.Nodes.length : Int) - 0).toNat (0) a0) k ≤ (f.Nodes.length) := by
  refine loop_iter (fun i (a : List Int) => (⟨[(0, unit fs), (1, .ptr 0 0 0 1), (2, .ptr 1 0 0 1), (3, .int .i64 t), (49, fns fs), (50, .int .i64 fs.length), (51, .int .i64 fs.length), (78, .int .i64 fs.length), (79, .int .i64 fs.length), (90, fns fs), (91, .int .i64 fs.length), (92, .int .i64 fs.length), (113, fns fs), (114, .int .i64 fs.length), (115, .int .i64 fs.length), (186, fns fs), (187, .int .i64 fs.length), (188, .int .i64 fi), (20, .ptr 2 0 0 1), (19, .int .i64 fi), (21, .sl 3 0 f.Nodes.length f.Nodes.length), (22, .int .i64 ((f.Nodes.length : Int) - 1 - i))], [], [.cells 1 [[fns fs]], .cells 3 [[.int .i64 0, .int .i64 0, .int .i64 0]], .cells 7 [f.cells], .cells 1 (il a)], []⟩ : St)) (fun (i : Int) (a : List Int) => iter (gDk (nth f.Nodes ((f.Nodes.length : Int) - 1 - i)).Kids ((f.Nodes.length : Int) - 1 - i)) (((nth f.Nodes ((f.Nodes.length : Int) - 1 - i)).Kids.length : Int) - 0).toNat 0 a) (fun i (a : List Int) => a.length = f.Nodes.length ∧ ∀ k : Int, 0 ≤ nth a k ∧ nth a k ≤ i) (fun a => (AExit.exit 18, (⟨[(0, unit fs), (1, .ptr 0 0 0 1), (2, .ptr 1 0 0 1), (3, .int .i64 t), (49, fns fs), (50, .int .i64 fs.length), (51, .int .i64 fs.length), (78, .int .i64 fs.length), (79, .int .i64 fs.length), (90, fns fs), (91, .int .i64 fs.length), (92, .int .i64 fs.length), (113, fns fs), (114, .int .i64 fs.length), (115, .int .i64 fs.length), (186, fns fs), (187, .int .i64 fs.length), (188, .int .i64 fi), (20, .ptr 2 0 0 1), (19, .int .i64 fi), (21, .sl 3 0 f.Nodes.length f.Nodes.length), (22, .int .i64 ((f.Nodes.length : Int) - 1 - (f.Nodes.length)))], [], [.cells 1 [[fns fs]], .cells 3 [[.int .i64 0, .int .i64 0, .int .i64 0]], .cells 7 [f.cells], .cells 1 (il a)], []⟩ : St))) (0) (f.Nodes.length) ?_ ?_ (0) a0 (by omega) (by omega) hok0
  · intro i a hi hn hok
    have hl := li_10 fs f t fi ((f.Nodes.length : Int) - 1 - i) i (nth f.Nodes ((f.Nodes.length : Int) - 1 - i)).Kids hb (hsz _).2 (by omega) (by omega) hi (by omega) (fun j j0 j1 => hki _ (by omega) (by omega) j j0 j1) a ⟨hok.1, fun k => by have := hok.2 k; omega, (hok.2 _).2⟩; have hl1 := hl.1; have hl2 := hl.2; have hi2 : 0 ≤ (f.Nodes.length : Int) - 1 - i := (by omega); have hkl := (hsz ((f.Nodes.length : Int) - 1 - i)).2; have hsub : (f.Nodes.length : Int) - 1 - i - 1 = f.Nodes.length - 1 - (i + 1) := (by omega)
    refine ⟨⟨_, by simp -implicitDefEqProofs +contextual (disch := omega) only [ub_zCU_9, rr_zCU, ↓XD, XU, ↓reduceIte, sevalprocAttr, il, nodes, Node.cells, Fn.cells, strs, ups, ints, hl1, hi2, hsub, hn, hok]; rfl, by first | (simp [St.next, trim_all]; done) | (simp [St.next, trim_all]; omega) | (simp [St.next, trim, bare, refsL, refs]; done)⟩, by exact ⟨hl2.1, hl2.2.1⟩⟩
  · rintro i a hi rfl hok
    have he : ¬0 ≤ (f.Nodes.length : Int) - 1 - f.Nodes.length := by omega
    refine ⟨by simp -implicitDefEqProofs +contextual (disch := omega) only [ub_zCU_9, rr_zCU, ↓XD, XU, ↓reduceIte, sevalprocAttr, il, nodes, Node.cells, Fn.cells, strs, ups, ints, Int.lt_irrefl, hok, he], by simp⟩
def depI (ns : List Node) : List Int := iter (fun (m : Int) (a : List Int) => iter (gDk (nth ns ((ns.length : Int) - 1 - m)).Kids ((ns.length : Int) - 1 - m)) (((nth ns ((ns.length : Int) - 1 - m)).Kids.length : Int) - 0).toNat 0 a) ((ns.length : Int) - 0).toNat 0 (List.replicate ns.length 0)
theorem depI_length (ns : List Node) : (depI ns).length = ns.length := by
  rw [depI, iter_length (fun i a => iter_length (fun j b => by simp [gDk]) _ _ _)]; simp
abbrev bad5i (ns : List Node) (n : Int) : Prop := 100 < nth (depI ns) n
theorem li_11 (fs : List Fn) (f : Fn) (t fi : Int) (hb : f.Nodes.length ≤ 1048576) (hD : (depI f.Nodes).length = f.Nodes.length) : match seek (fun (j : Int) => bad5i f.Nodes j) 0 f.Nodes.length with | some j => ∃ st, EV A (.loop (B_zCU 11)) (⟨[(0, unit fs), (1, .ptr 0 0 0 1), (2, .ptr 1 0 0 1), (3, .int .i64 t), (49, fns fs), (50, .int .i64 fs.length), (51, .int .i64 fs.length), (78, .int .i64 fs.length), (79, .int .i64 fs.length), (90, fns fs), (91, .int .i64 fs.length), (92, .int .i64 fs.length), (113, fns fs), (114, .int .i64 fs.length), (115, .int .i64 fs.length), (186, fns fs), (187, .int .i64 fs.length), (188, .int .i64 fi), (20, .ptr 2 0 0 1), (19, .int .i64 fi), (21, .sl 3 0 f.Nodes.length f.Nodes.length), (22, .int .i64 ((f.Nodes.length : Int) - 1 - f.Nodes.length)), (227, .int .i64 f.Nodes.length), (228, .int .i64 (0))], [], [.cells 1 [[fns fs]], .cells 3 [[.int .i64 0, .int .i64 0, .int .i64 0]], .cells 7 [f.cells], .cells 1 (il (depI f.Nodes))], []⟩ : St) = some (.ret, st) ∧ ResAt 2 1 3 (flt3 5 fi j) st | none => EV A (.loop (B_zCU 11)) (⟨[(0, unit fs), (1, .ptr 0 0 0 1), (2, .ptr 1 0 0 1), (3, .int .i64 t), (49, fns fs), (50, .int .i64 fs.length), (51, .int .i64 fs.length), (78, .int .i64 fs.length), (79, .int .i64 fs.length), (90, fns fs), (91, .int .i64 fs.length), (92, .int .i64 fs.length), (113, fns fs), (114, .int .i64 fs.length), (115, .int .i64 fs.length), (186, fns fs), (187, .int .i64 fs.length), (188, .int .i64 fi), (20, .ptr 2 0 0 1), (19, .int .i64 fi), (21, .sl 3 0 f.Nodes.length f.Nodes.length), (22, .int .i64 ((f.Nodes.length : Int) - 1 - f.Nodes.length)), (227, .int .i64 f.Nodes.length), (228, .int .i64 (0))], [], [.cells 1 [[fns fs]], .cells 3 [[.int .i64 0, .int .i64 0, .int .i64 0]], .cells 7 [f.cells], .cells 1 (il (depI f.Nodes))], []⟩ : St) = some (AExit.exit 22, (⟨[(0, unit fs), (1, .ptr 0 0 0 1), (2, .ptr 1 0 0 1), (3, .int .i64 t), (49, fns fs), (50, .int .i64 fs.length), (51, .int .i64 fs.length), (78, .int .i64 fs.length), (79, .int .i64 fs.length), (90, fns fs), (91, .int .i64 fs.length), (92, .int .i64 fs.length), (113, fns fs), (114, .int .i64 fs.length), (115, .int .i64 fs.length), (186, fns fs), (187, .int .i64 fs.length), (188, .int .i64 fi), (20, .ptr 2 0 0 1), (19, .int .i64 fi), (21, .sl 3 0 f.Nodes.length f.Nodes.length), (22, .int .i64 ((f.Nodes.length : Int) - 1 - f.Nodes.length)), (227, .int .i64 f.Nodes.length), (228, .int .i64 (f.Nodes.length))], [], [.cells 1 [[fns fs]], .cells 3 [[.int .i64 0, .int .i64 0, .int .i64 0]], .cells 7 [f.cells], .cells 1 (il (depI f.Nodes))], []⟩ : St)) := by
  refine loop_seek (fun i => (⟨[(0, unit fs), (1, .ptr 0 0 0 1), (2, .ptr 1 0 0 1), (3, .int .i64 t), (49, fns fs), (50, .int .i64 fs.length), (51, .int .i64 fs.length), (78, .int .i64 fs.length), (79, .int .i64 fs.length), (90, fns fs), (91, .int .i64 fs.length), (92, .int .i64 fs.length), (113, fns fs), (114, .int .i64 fs.length), (115, .int .i64 fs.length), (186, fns fs), (187, .int .i64 fs.length), (188, .int .i64 fi), (20, .ptr 2 0 0 1), (19, .int .i64 fi), (21, .sl 3 0 f.Nodes.length f.Nodes.length), (22, .int .i64 ((f.Nodes.length : Int) - 1 - f.Nodes.length)), (227, .int .i64 f.Nodes.length), (228, .int .i64 i)], [], [.cells 1 [[fns fs]], .cells 3 [[.int .i64 0, .int .i64 0, .int .i64 0]], .cells 7 [f.cells], .cells 1 (il (depI f.Nodes))], []⟩ : St)) (fun (j : Int) => bad5i f.Nodes j) (fun (j : Int) (st : St) => ResAt 2 1 3 (flt3 5 fi j) st) (AExit.exit 22, (⟨[(0, unit fs), (1, .ptr 0 0 0 1), (2, .ptr 1 0 0 1), (3, .int .i64 t), (49, fns fs), (50, .int .i64 fs.length), (51, .int .i64 fs.length), (78, .int .i64 fs.length), (79, .int .i64 fs.length), (90, fns fs), (91, .int .i64 fs.length), (92, .int .i64 fs.length), (113, fns fs), (114, .int .i64 fs.length), (115, .int .i64 fs.length), (186, fns fs), (187, .int .i64 fs.length), (188, .int .i64 fi), (20, .ptr 2 0 0 1), (19, .int .i64 fi), (21, .sl 3 0 f.Nodes.length f.Nodes.length), (22, .int .i64 ((f.Nodes.length : Int) - 1 - f.Nodes.length)), (227, .int .i64 f.Nodes.length), (228, .int .i64 (f.Nodes.length))], [], [.cells 1 [[fns fs]], .cells 3 [[.int .i64 0, .int .i64 0, .int .i64 0]], .cells 7 [f.cells], .cells 1 (il (depI f.Nodes))], []⟩ : St)) (0) (f.Nodes.length) ?_ ?_ ?_ (0) (by omega) (by omega)
  · intro i hi hn hp
    try simp only [Classical.not_not] at hp
    simp only [bad5i] at hp
    refine ⟨_, by simp -implicitDefEqProofs +contextual (disch := omega) only [ub_zCU_11, rr_zCU, ↓XD, XU, ↓reduceIte, sevalprocAttr, il, hD, hn, hp]; rfl, by first | (simp [St.next, trim_all]; done) | (simp [St.next, trim_all]; omega) | (simp [St.next, trim, bare, refsL, refs]; done)⟩
  · intro i hi hn hp
    simp only [bad5i] at hp
    refine ⟨_, by simp -implicitDefEqProofs +contextual (disch := omega) only [ub_zCU_11, rr_zCU, ↓XD, XU, ↓reduceIte, sevalprocAttr, il, hD, hn, hp]; rfl, by simp [ResAt, Env.get, Env.put]⟩
  · rintro i hi rfl
    refine ⟨by simp -implicitDefEqProofs +contextual (disch := omega) only [ub_zCU_11, rr_zCU, ↓XD, XU, ↓reduceIte, sevalprocAttr, il, hD, Int.lt_irrefl], by simp⟩
theorem li_9u (fs : List Fn) (f : Fn) (t fi : Int) (hg : GrowOk f.Nodes) : EV A (.loop (B_zCU 9)) (⟨[(0, unit fs), (1, .ptr 0 0 0 1), (2, .ptr 1 0 0 1), (3, .int .i64 t), (49, fns fs), (50, .int .i64 fs.length), (51, .int .i64 fs.length), (78, .int .i64 fs.length), (79, .int .i64 fs.length), (90, fns fs), (91, .int .i64 fs.length), (92, .int .i64 fs.length), (113, fns fs), (114, .int .i64 fs.length), (115, .int .i64 fs.length), (186, fns fs), (187, .int .i64 fs.length), (188, .int .i64 fi), (20, .ptr 2 0 0 1), (19, .int .i64 fi), (21, .sl 3 0 f.Nodes.length f.Nodes.length), (22, .int .i64 ((f.Nodes.length : Int) - 1))], [], [.cells 1 [[fns fs]], .cells 3 [[.int .i64 0, .int .i64 0, .int .i64 0]], .cells 7 [f.cells], .cells 1 (il (List.replicate f.Nodes.length 0))], []⟩ : St) = some (AExit.exit 18, (⟨[(0, unit fs), (1, .ptr 0 0 0 1), (2, .ptr 1 0 0 1), (3, .int .i64 t), (49, fns fs), (50, .int .i64 fs.length), (51, .int .i64 fs.length), (78, .int .i64 fs.length), (79, .int .i64 fs.length), (90, fns fs), (91, .int .i64 fs.length), (92, .int .i64 fs.length), (113, fns fs), (114, .int .i64 fs.length), (115, .int .i64 fs.length), (186, fns fs), (187, .int .i64 fs.length), (188, .int .i64 fi), (20, .ptr 2 0 0 1), (19, .int .i64 fi), (21, .sl 3 0 f.Nodes.length f.Nodes.length), (22, .int .i64 ((f.Nodes.length : Int) - 1 - f.Nodes.length))], [], [.cells 1 [[fns fs]], .cells 3 [[.int .i64 0, .int .i64 0, .int .i64 0]], .cells 7 [f.cells], .cells 1 (il (depI f.Nodes))], []⟩ : St)) := by
  have := (li_9 fs f t fi hg.hb hg.hsz hg.hki (List.replicate f.Nodes.length 0) ⟨by simp, fun k => by rw [rep_zero]; omega⟩).1
  rw [show (f.Nodes.length : Int) - 1 - 0 = f.Nodes.length - 1 by omega] at this
  exact this
noncomputable abbrev badDepI (fs : List Fn) (j : Int) : Option Int := seek (fun n => bad5i (nth fs j).Nodes n) 0 (nth fs j).Nodes.length
theorem li_8 (fs : List Fn) (t : Int) (hb : fs.length ≤ 1048576) (hG : ∀ f : Int, 0 ≤ f → f < fs.length → GrowOk (nth fs f).Nodes) : match seek (fun (j : Int) => badDepI fs j ≠ none) 0 fs.length with | some j => ∃ st, EV A (.loop (B_zCU 8)) (⟨[(0, unit fs), (1, .ptr 0 0 0 1), (2, .ptr 1 0 0 1), (3, .int .i64 t), (49, fns fs), (50, .int .i64 fs.length), (51, .int .i64 fs.length), (78, .int .i64 fs.length), (79, .int .i64 fs.length), (90, fns fs), (91, .int .i64 fs.length), (92, .int .i64 fs.length), (113, fns fs), (114, .int .i64 fs.length), (115, .int .i64 fs.length), (186, fns fs), (187, .int .i64 fs.length), (188, .int .i64 (0))], [], hU fs, []⟩ : St) = some (.ret, st) ∧ ResAt 2 1 3 (flt3 5 j ((badDepI fs j).getD 0)) st | none => EV A (.loop (B_zCU 8)) (⟨[(0, unit fs), (1, .ptr 0 0 0 1), (2, .ptr 1 0 0 1), (3, .int .i64 t), (49, fns fs), (50, .int .i64 fs.length), (51, .int .i64 fs.length), (78, .int .i64 fs.length), (79, .int .i64 fs.length), (90, fns fs), (91, .int .i64 fs.length), (92, .int .i64 fs.length), (113, fns fs), (114, .int .i64 fs.length), (115, .int .i64 fs.length), (186, fns fs), (187, .int .i64 fs.length), (188, .int .i64 (0))], [], hU fs, []⟩ : St) = some (AExit.exit 16, (⟨[(0, unit fs), (1, .ptr 0 0 0 1), (2, .ptr 1 0 0 1), (3, .int .i64 t), (49, fns fs), (50, .int .i64 fs.length), (51, .int .i64 fs.length), (78, .int .i64 fs.length), (79, .int .i64 fs.length), (90, fns fs), (91, .int .i64 fs.length), (92, .int .i64 fs.length), (113, fns fs), (114, .int .i64 fs.length), (115, .int .i64 fs.length), (186, fns fs), (187, .int .i64 fs.length), (188, .int .i64 (fs.length))], [], hU fs, []⟩ : St)) := by
  refine loop_seek (fun i => (⟨[(0, unit fs), (1, .ptr 0 0 0 1), (2, .ptr 1 0 0 1), (3, .int .i64 t), (49, fns fs), (50, .int .i64 fs.length), (51, .int .i64 fs.length), (78, .int .i64 fs.length), (79, .int .i64 fs.length), (90, fns fs), (91, .int .i64 fs.length), (92, .int .i64 fs.length), (113, fns fs), (114, .int .i64 fs.length), (115, .int .i64 fs.length), (186, fns fs), (187, .int .i64 fs.length), (188, .int .i64 i)], [], hU fs, []⟩ : St)) (fun (j : Int) => badDepI fs j ≠ none) (fun (j : Int) (st : St) => ResAt 2 1 3 (flt3 5 j ((badDepI fs j).getD 0)) st) (AExit.exit 16, (⟨[(0, unit fs), (1, .ptr 0 0 0 1), (2, .ptr 1 0 0 1), (3, .int .i64 t), (49, fns fs), (50, .int .i64 fs.length), (51, .int .i64 fs.length), (78, .int .i64 fs.length), (79, .int .i64 fs.length), (90, fns fs), (91, .int .i64 fs.length), (92, .int .i64 fs.length), (113, fns fs), (114, .int .i64 fs.length), (115, .int .i64 fs.length), (186, fns fs), (187, .int .i64 fs.length), (188, .int .i64 (fs.length))], [], hU fs, []⟩ : St)) (0) (fs.length) ?_ ?_ ?_ (0) (by omega) (by omega)
  · intro i hi hn hp
    have hg := hG i hi hn; have hg1 := hg.hb; have hg2 := hg.h1; have h5 := li_9u fs (nth fs i) t i hg; have hl := li_11 fs (nth fs i) t i hg.hb (depI_length _)
    have hp' : badDepI fs i = none := by simpa using hp
    unfold badDepI at hp'
    rw [hp'] at hl
    refine ⟨_, by (simp -implicitDefEqProofs +contextual (disch := omega) only [ub_zCU_8, rr_zCU, hU, unit, fns, Fn.cells, nodes, strs, ups, ↓XD, XU, ↓reduceIte, sevalprocAttr, hn, h5, hl]) <;> rfl, by simp [St.next, trim, bare, refsL, refs]⟩
  · intro i hi hn hp
    have hg := hG i hi hn; have hg1 := hg.hb; have hg2 := hg.h1; have h5 := li_9u fs (nth fs i) t i hg; have hl := li_11 fs (nth fs i) t i hg.hb (depI_length _)
    obtain ⟨k, hk⟩ := Option.ne_none_iff_exists'.1 hp
    unfold badDepI at hk
    rw [hk] at hl
    obtain ⟨st, hl, hg⟩ := hl
    refine ⟨_, by (simp -implicitDefEqProofs +contextual (disch := omega) only [ub_zCU_8, rr_zCU, hU, unit, fns, Fn.cells, nodes, strs, ups, ↓XD, XU, ↓reduceIte, sevalprocAttr, hn, h5, hl]) <;> rfl, by unfold badDepI; rw [hk]; exact hg⟩
  · rintro i hi rfl
    refine ⟨by simp -implicitDefEqProofs +contextual (disch := omega) only [ub_zCU_8, rr_zCU, ↓XD, XU, ↓reduceIte, sevalprocAttr, hU, unit, fns, Fn.cells, nodes, strs, ups, Int.lt_irrefl], by simp⟩
end Go.Proofs.Try.Av
end
section
namespace Go.Proofs.Try.Av
open Go Go.Av Classical
theorem used_is (ns : List Node) (hki : KidsIn ns) (k : Int) (k0 : 0 ≤ k) (k1 : k < ns.length) : nth (used ns) k = cnt ns k ns.length := by
  have hin : ∀ (i : Int), 0 ≤ i → i < ns.length → ∀ a : List Int, (a.length = ns.length ∧ ∀ k : Int, 0 ≤ k → k < ns.length → nth a k = cnt ns k i.toNat) → ((iter (gUse (nth ns i).Kids) (((nth ns i).Kids.length : Int) - 0).toNat 0 a).length = ns.length ∧ ∀ k : Int, 0 ≤ k → k < ns.length → nth (iter (gUse (nth ns i).Kids) (((nth ns i).Kids.length : Int) - 0).toNat 0 a) k = cnt ns k (i + 1).toNat) := by
    rintro i hi hn a ⟨hl, h⟩
    have := iter_inv (g := gUse (nth ns i).Kids) (fun j a => a.length = ns.length ∧ ∀ k : Int, 0 ≤ k → k < ns.length → nth a k = (cnt ns k i.toNat + ((nth ns i).Kids.take j.toNat).count k : Nat)) 0 ((nth ns i).Kids.length : Int) (by
      rintro j a h1 h2 ⟨h3, h4⟩
      have hk := hki i hi hn j h1 h2
      refine ⟨by simpa [gUse] using h3, fun k k0 k1 => ?_⟩
      rw [gUse, nth_set hk.1 (by omega) k0, take_one_more h1 h2, List.count_append]
      by_cases hkk : nth (nth ns i).Kids j = k
      · rw [if_pos hkk, hkk, h4 k k0 k1]; simp; omega
      · rw [if_neg hkk, h4 k k0 k1]
        have : List.count k [nth (nth ns i).Kids j] = 0 := by simp [hkk]
        rw [this]; omega) (a := a) (by omega) ⟨hl, fun k k0 k1 => by rw [h k k0 k1]; simp⟩
    refine ⟨this.1, fun k k0 k1 => ?_⟩
    rw [this.2 k k0 k1, cnt_step ns k hi hn]
    simp
  have := iter_inv (g := fun (i : Int) (a : List Int) => iter (gUse (nth ns i).Kids) (((nth ns i).Kids.length : Int) - 0).toNat 0 a) (fun i a => a.length = ns.length ∧ ∀ k : Int, 0 ≤ k → k < ns.length → nth a k = cnt ns k i.toNat) 0 (ns.length : Int) (fun i a h1 h2 h3 => hin i h1 h2 a h3) (a := List.replicate ns.length 0) (by omega) ⟨by simp, fun k k0 k1 => by rw [rep_zero]; simp [cnt]⟩
  have h6 := this.2 k k0 k1
  rw [show cnt ns k (ns.length : Int).toNat = cnt ns k ns.length by simp] at h6
  exact h6
theorem bad4_same (ns : List Node) (hki : KidsIn ns) (h1 : 1 ≤ ns.length) (n : Int) (n0 : 0 ≤ n) (n1 : n < ns.length) : bad4i ns n ↔ bad4 ns n := by
  simp only [bad4i, bad4]
  by_cases h : n = (ns.length : Int) - 1
  · have := growP_last ns hki h1
    constructor
    · rintro (⟨h2, _⟩ | ⟨_, h3⟩)
      · omega
      · exact .inr ⟨h, .inr h3⟩
    · rintro (⟨h2, _⟩ | ⟨_, h3 | h3⟩)
      · exact absurd h h2
      · exact absurd this h3
      · exact .inr ⟨h, h3⟩
  · have hu := used_is ns hki n n0 n1
    have hp := growP_par ns hki n n0 (by omega)
    constructor
    · rintro (⟨h2, h3⟩ | ⟨h2, _⟩)
      · left
        refine ⟨h, ?_⟩
        rcases hp with ⟨c, v⟩ | ⟨c, v, _⟩ | ⟨c, v⟩
        · omega
        · omega
        · omega
      · exact absurd h2 h
    · rintro (⟨_, h3⟩ | ⟨h2, _⟩)
      · left
        refine ⟨by omega, ?_⟩
        rcases hp with ⟨c, v⟩ | ⟨c, v, _⟩ | ⟨c, v⟩ <;> omega
      · exact absurd h2 h
theorem badUse_same {fs : List Fn} (hG : ∀ f : Int, 0 ≤ f → f < fs.length → GrowOk (nth fs f).Nodes) {f : Int} (f0 : 0 ≤ f) (f1 : f < fs.length) : badUse fs f = badPar fs f :=
  seek_congr fun n n0 n1 => bad4_same _ (hG f f0 f1).hki (hG f f0 f1).h1 n n0 n1
theorem mem_cnt {ns : List Node} {k i : Int} (i0 : 0 ≤ i) (i1 : i < ns.length) (hm : k ∈ (nth ns i).Kids) : ∀ m : Nat, i < m → (m : Int) ≤ ns.length → 1 ≤ cnt ns k m := by
  intro m
  induction m with
  | zero => intro h; omega
  | succ m ih =>
    intro h1 h2
    have e := cnt_step ns k (i := (m : Int)) (by omega) (by omega)
    rw [show ((m : Int) + 1).toNat = m + 1 by omega, show ((m : Int)).toNat = m by omega] at e
    rw [e]
    by_cases h : i = m
    · subst h
      have := List.count_pos_iff.2 hm
      omega
    · have := ih (by omega) (by omega); omega
theorem two_cnt {ns : List Node} {k i j : Int} (i0 : 0 ≤ i) (hij : i < j) (j1 : j < ns.length) (hi : k ∈ (nth ns i).Kids) (hj : k ∈ (nth ns j).Kids) : ∀ m : Nat, j < m → (m : Int) ≤ ns.length → 2 ≤ cnt ns k m := by
  intro m
  induction m with
  | zero => intro h; omega
  | succ m ih =>
    intro h1 h2
    have e := cnt_step ns k (i := (m : Int)) (by omega) (by omega)
    rw [show ((m : Int) + 1).toNat = m + 1 by omega, show ((m : Int)).toNat = m by omega] at e
    rw [e]
    by_cases h : j = m
    · subst h
      have h3 := List.count_pos_iff.2 hj
      have h4 := mem_cnt i0 (by omega) hi m (by omega) (by omega)
      omega
    · have := ih (by omega) (by omega); omega
theorem parent_is {ns : List Node} (hki : KidsIn ns) (h4 : ∀ n : Int, 0 ≤ n → n < ns.length → ¬bad4 ns n) {k i : Int} (i0 : 0 ≤ i) (i1 : i < ns.length) (hm : k ∈ (nth ns i).Kids) : nth (growP ns) k = i := by
  obtain ⟨j, j0, j1, j2⟩ := mem_nth hm
  have hk := hki i i0 i1 j j0 j1
  rw [j2] at hk
  have hb := h4 k hk.1 (by omega)
  have hv : 0 ≤ nth (growP ns) k := by
    rcases Int.lt_or_le (nth (growP ns) k) 0 with h5 | h5
    · exact absurd (.inl ⟨by omega, h5⟩) hb
    · exact h5
  rcases growP_par ns hki k hk.1 (by omega) with ⟨_, h⟩ | ⟨c, v0, v1, v2⟩ | ⟨_, h⟩
  · omega
  · rcases Int.lt_trichotomy (nth (growP ns) k) i with h | h | h
    · have := two_cnt v0 h i1 v2 hm ns.length i1 (Int.le_refl _); omega
    · exact h
    · have := two_cnt i0 h v1 hm v2 ns.length v1 (Int.le_refl _); omega
  · omega
theorem growD_is (ns : List Node) (hki : KidsIn ns) (h1 : 1 ≤ ns.length) (ht : TreeOk ns (growP ns)) : nth (growD ns) ((ns.length : Int) - 1) = 0 ∧ ∀ k : Int, 0 ≤ k → k < (ns.length : Int) - 1 → 0 ≤ nth (growP ns) k → nth (growD ns) k = nth (growD ns) (nth (growP ns) k) + 1 := by
  have hlt : ∀ k : Int, 0 ≤ k → k < ns.length → 0 ≤ nth (growP ns) k → k < nth (growP ns) k ∧ nth (growP ns) k < ns.length := fun k k0 k1 h => by
    rcases ht.2 k k0 k1 with h2 | ⟨h2, h3, _⟩
    · omega
    · exact ⟨h2, h3⟩
  have := iter_inv (g := gDep ns.length (growP ns)) (fun j a => a.length = ns.length ∧ nth a ((ns.length : Int) - 1) = 0 ∧ ∀ k : Int, (ns.length : Int) - 1 - j ≤ k → 0 ≤ k → k < (ns.length : Int) - 1 → 0 ≤ nth (growP ns) k → nth a k = nth a (nth (growP ns) k) + 1) 0 ((ns.length : Int) - 1) (by
    rintro j a h2 h3 ⟨h4, h5, h6⟩
    simp only [gDep]
    by_cases hp : 0 ≤ nth (growP ns) ((ns.length : Int) - 2 - j)
    · rw [if_pos hp]
      have hl := hlt _ (by omega) (by omega) hp
      refine ⟨by simpa using h4, by rw [nth_set (by omega) (by omega) (by omega), if_neg (by omega)]; exact h5, fun k k1 k0 k2 k3 => ?_⟩
      have hl2 := hlt k k0 (by omega) k3
      rw [nth_set (by omega) (by omega) k0, nth_set (by omega) (by omega) k3]
      by_cases hk : (ns.length : Int) - 2 - j = k
      · rw [if_pos hk, if_neg (by omega), hk]
      · rw [if_neg hk, if_neg (by omega)]
        exact h6 k (by omega) k0 k2 k3
    · rw [if_neg hp]
      refine ⟨h4, h5, fun k k1 k0 k2 k3 => ?_⟩
      by_cases hk : (ns.length : Int) - 2 - j = k
      · rw [hk] at hp; exact absurd k3 hp
      · exact h6 k (by omega) k0 k2 k3) (a := List.replicate ns.length 0) (by omega) ⟨by simp, rep_zero _ _, fun k k1 k0 k2 _ => by omega⟩
  exact ⟨this.2.1, fun k k0 k1 k2 => this.2.2 k (by omega) k0 k1 k2⟩
theorem depI_is (ns : List Node) (hki : KidsIn ns) (h1 : 1 ≤ ns.length) (h4 : ∀ n : Int, 0 ≤ n → n < ns.length → ¬bad4 ns n) (k : Int) (k0 : 0 ≤ k) (k1 : k < ns.length) : nth (depI ns) k = nth (growD ns) k := by
  have ht := tree_ok ns hki h1 h4
  obtain ⟨d0, dp⟩ := growD_is ns hki h1 ht
  have hpar : ∀ k : Int, 0 ≤ k → k < (ns.length : Int) - 1 → k < nth (growP ns) k ∧ nth (growP ns) k < ns.length ∧ k ∈ (nth ns (nth (growP ns) k)).Kids := fun k k0 k1 => by
    have hb := h4 k k0 (by omega)
    have hv : 0 ≤ nth (growP ns) k := by
      rcases Int.lt_or_le (nth (growP ns) k) 0 with h5 | h5
      · exact absurd (.inl ⟨by omega, h5⟩) hb
      · exact h5
    rcases ht.2 k k0 (by omega) with h2 | ⟨h2, h3, h5⟩
    · omega
    · exact ⟨h2, h3, (place_nonneg h5).1⟩
  have := iter_inv (g := fun (m : Int) (a : List Int) => iter (gDk (nth ns ((ns.length : Int) - 1 - m)).Kids ((ns.length : Int) - 1 - m)) (((nth ns ((ns.length : Int) - 1 - m)).Kids.length : Int) - 0).toNat 0 a)
    (fun m a => a.length = ns.length ∧ ∀ k : Int, 0 ≤ k → k < ns.length → (k = (ns.length : Int) - 1 ∨ (ns.length : Int) - m ≤ nth (growP ns) k) → nth a k = nth (growD ns) k) 0 (ns.length : Int) (by
    rintro m a m0 m1 ⟨hl, h⟩
    have hin := iter_inv (g := gDk (nth ns ((ns.length : Int) - 1 - m)).Kids ((ns.length : Int) - 1 - m)) (fun j a => a.length = ns.length ∧ ∀ k : Int, 0 ≤ k → k < ns.length → (k = (ns.length : Int) - 1 ∨ (ns.length : Int) - m ≤ nth (growP ns) k ∨ k ∈ ((nth ns ((ns.length : Int) - 1 - m)).Kids.take j.toNat)) → nth a k = nth (growD ns) k) 0 ((nth ns ((ns.length : Int) - 1 - m)).Kids.length : Int) (by
      rintro j a j0 j1 ⟨hl, h⟩
      have hk := hki _ (by omega) (by omega) j j0 j1
      refine ⟨by simpa [gDk] using hl, fun k k0 k1 hc => ?_⟩
      rw [gDk, nth_set hk.1 (by omega) k0]
      by_cases he : nth (nth ns ((ns.length : Int) - 1 - m)).Kids j = k
      · rw [if_pos he]
        have hn : nth a ((ns.length : Int) - 1 - m) = nth (growD ns) ((ns.length : Int) - 1 - m) := by
          by_cases hr : (ns.length : Int) - 1 - m = ns.length - 1
          · exact h _ (by omega) (by omega) (.inl hr)
          · have := hpar ((ns.length : Int) - 1 - m) (by omega) (by omega)
            exact h _ (by omega) (by omega) (.inr (.inl (by omega)))
        have hp := parent_is hki h4 (i := (ns.length : Int) - 1 - m) (by omega) (by omega) (he ▸ nth_mem j0 j1)
        rw [hn, dp k k0 (by omega) (by omega), hp]
      · rw [if_neg he]
        refine h k k0 k1 ?_
        rcases hc with hc | hc | hc
        · exact .inl hc
        · exact .inr (.inl hc)
        · rw [take_one_more j0 j1, List.mem_append, List.mem_singleton] at hc
          rcases hc with hc | hc
          · exact .inr (.inr hc)
          · exact absurd hc.symm he) (a := a) (by omega) ⟨hl, fun k k0 k1 hc => by
        refine h k k0 k1 ?_
        rcases hc with hc | hc | hc
        · exact .inl hc
        · exact .inr hc
        · simp at hc⟩
    refine ⟨hin.1, fun k k0 k1 hc => hin.2 k k0 k1 ?_⟩
    rcases hc with hc | hc
    · exact .inl hc
    · by_cases he : k = (ns.length : Int) - 1
      · exact .inl he
      · right
        by_cases h5 : (ns.length : Int) - m ≤ nth (growP ns) k
        · exact .inl h5
        · right
          have := hpar k k0 (by omega)
          have e : nth (growP ns) k = (ns.length : Int) - 1 - m := by omega
          rw [e] at this
          simpa using this.2.2) (a := List.replicate ns.length 0) (by omega) ⟨by simp, fun k k0 k1 hc => by
      rcases hc with hc | hc
      · subst hc; rw [rep_zero, d0]
      · by_cases he : k = (ns.length : Int) - 1
        · subst he; rw [rep_zero, d0]
        · have := hpar k k0 (by omega); omega⟩
  refine this.2 k k0 k1 ?_
  by_cases he : k = (ns.length : Int) - 1
  · exact .inl he
  · have := hpar k k0 (by omega); exact .inr (by omega)
theorem badDep_same {fs : List Fn} (hG : ∀ f : Int, 0 ≤ f → f < fs.length → GrowOk (nth fs f).Nodes) (hp : badPars fs = none) {f : Int} (f0 : 0 ≤ f) (f1 : f < fs.length) : badDepI fs f = badDep fs f :=
  seek_congr fun n n0 n1 => by
    have h3 : badPar fs f = none := Classical.not_not.1 (seek_noneD hp f0 f1)
    simp only [bad5i, bad5]
    rw [depI_is _ (hG f f0 f1).hki (hG f f0 f1).h1 (fun m m0 m1 => seek_noneD h3 m0 m1) n n0 n1]
end Go.Proofs.Try.Av
end
section
attribute [local congr] ite_congr
set_option maxRecDepth 10000
set_option maxHeartbeats 400000
namespace Go.Proofs.Try.Av
open Go Go.Av Classical
section
abbrev scell (f : Fn) (iid : Nat) (see : PV) : List PV := [.str f.Name, .int .i64 f.Line, .int .i64 f.Params, .bool f.Rest, strs f.Vars, ups f.Ups, nodes f.Nodes, .sl iid 0 f.Vars.length f.Vars.length, see]
theorem set_same {H : Heap} {i : Nat} {b : Blk} (h : H[i]? = some b) : H.set i b = H := by
  have hi : i < H.length := by rcases Nat.lt_or_ge i H.length with h1 | h1; exact h1; rw [List.getElem?_eq_none h1] at h; cases h
  refine List.ext_getElem? fun j => ?_
  by_cases e : i = j
  · subst e; rw [List.getElem?_set_self hi, h]
  · rw [List.getElem?_set_ne e]
theorem some_lt {H : Heap} {i : Nat} {b : Blk} (h : H[i]? = some b) : i < H.length := by
  rcases Nat.lt_or_ge i H.length with h1 | h1
  · exact h1
  · rw [List.getElem?_eq_none h1] at h; cases h
abbrev addOne (L : Nat) (refs : List Int) (i : Int) (a : List Bool) : List Bool := if 0 ≤ nth refs i ∧ nth refs i < L then a.set (nth refs i).toNat true else a
def addRefs (L : Nat) (refs : List Int) (a : List Bool) : List Bool := iter (addOne L refs) ((refs.length : Int) - 0).toNat 0 a
theorem addRefs_length (L : Nat) (refs : List Int) (a : List Bool) : (addRefs L refs a).length = a.length := by
  rw [addRefs]
  have : ∀ (m : Nat) (i : Int) (a : List Bool), (iter (addOne L refs) m i a).length = a.length := by
    intro m
    induction m with
    | zero => intro i a; rfl
    | succ m ih => intro i a; rw [iter, ih]; simp only [addOne]; split <;> simp
  exact this _ _ _
theorem lw_set (f : Fn) (sid iid n0 m1 x0 : Nat) (see : PV) (nd : Node) (H : Heap) (hr : nd.Refs.length ≤ 1048576) (hb : f.Vars.length ≤ 1048576) (q1 : ∀ b, (H.set iid b)[sid]? = some (.cells 9 [scell f iid see])) (q2 : ∀ b, (H.set iid b)[iid]? = some b) (q3 : ∀ b, (H.set iid b)[n0]? = some (.cells 1 [[.ptr sid 0 0 1]])) (q4 : ∀ b, (H.set iid b)[x0]? = some (.cells 8 [nd.cells])) (q5 : ∀ b b', (H.set iid b).set iid b' = H.set iid b') (a0 : List Bool) (hok0 : a0.length = f.Vars.length) : EV A (.loop (B_zSw_S1 0)) (⟨[(0, .bool true), (1, .ptr n0 0 0 1), (2, .ptr m1 0 0 1), (3, .ptr x0 0 0 1), (16, ints nd.Refs), (17, .int .i64 nd.Refs.length), (18, .int .i64 (0))], [], H.set iid (.cells 1 (bl a0)), []⟩ : St) = some (AExit.exit 0, (⟨[(0, .bool true), (1, .ptr n0 0 0 1), (2, .ptr m1 0 0 1), (3, .ptr x0 0 0 1), (16, ints nd.Refs), (17, .int .i64 nd.Refs.length), (18, .int .i64 (nd.Refs.length))], [], H.set iid (.cells 1 (bl (iter (fun (i : Int) (a : List Bool) => addOne f.Vars.length nd.Refs i a) ((nd.Refs.length : Int) - 0).toNat (0) a0))), []⟩ : St)) ∧ (iter (fun (i : Int) (a : List Bool) => addOne f.Vars.length nd.Refs i a) ((nd.Refs.length : Int) - 0).toNat (0) a0).length = f.Vars.length := by
  refine loop_iter (fun i (a : List Bool) => (⟨[(0, .bool true), (1, .ptr n0 0 0 1), (2, .ptr m1 0 0 1), (3, .ptr x0 0 0 1), (16, ints nd.Refs), (17, .int .i64 nd.Refs.length), (18, .int .i64 i)], [], H.set iid (.cells 1 (bl a)), []⟩ : St)) (fun (i : Int) (a : List Bool) => addOne f.Vars.length nd.Refs i a) (fun i (a : List Bool) => a.length = f.Vars.length) (fun a => (AExit.exit 0, (⟨[(0, .bool true), (1, .ptr n0 0 0 1), (2, .ptr m1 0 0 1), (3, .ptr x0 0 0 1), (16, ints nd.Refs), (17, .int .i64 nd.Refs.length), (18, .int .i64 (nd.Refs.length))], [], H.set iid (.cells 1 (bl a)), []⟩ : St))) (0) (nd.Refs.length) ?_ ?_ (0) a0 (by omega) (by omega) hok0
  · intro i a hi hn hok
    simp only [scell, strs, ups, nodes] at q1; simp only [Node.cells, ints] at q4
    by_cases hL : 0 ≤ nth nd.Refs i ∧ nth nd.Refs i < f.Vars.length
    · refine ⟨⟨_, by simp -implicitDefEqProofs +contextual (disch := omega) only [ub_zSw_S1_0, rr_zSw_S1, ↓XD, XU, ↓reduceIte, sevalprocAttr, bl, ints, addOne, q1, q2, q3, q4, q5, hL, hn, hok]; rfl, by first | (simp [St.next, trim_all, addOne, bl, hL]; done) | (simp [St.next, trim_all, addOne, bl, hL]; omega) | (simp [St.next, trim, bare, refsL, refs, addOne, bl, hL]; done)⟩, by simp only [addOne]; split <;> simpa using hok⟩
    · refine ⟨⟨_, by simp -implicitDefEqProofs +contextual (disch := omega) only [ub_zSw_S1_0, rr_zSw_S1, ↓XD, XU, ↓reduceIte, sevalprocAttr, bl, ints, addOne, q1, q2, q3, q4, q5, hL, hn, hok]; rfl, by first | (simp [St.next, trim_all, addOne, bl, hL]; done) | (simp [St.next, trim_all, addOne, bl, hL]; omega) | (simp [St.next, trim, bare, refsL, refs, addOne, bl, hL]; done)⟩, by simp only [addOne]; split <;> simpa using hok⟩
  · rintro i a hi rfl hok
    refine ⟨by simp -implicitDefEqProofs +contextual (disch := omega) only [ub_zSw_S1_0, rr_zSw_S1, ↓XD, XU, ↓reduceIte, sevalprocAttr, bl, ints, addOne, q1, q2, q3, q4, q5, Int.lt_irrefl, hok], by simp⟩
def copK (H : Heap) (sz : Nat) (x y : PV) : Option (PV × Heap × Edges) := match x, rowsOf H y with
    | .sl id off len tot, some new => match H[id]? with
      | some (.cells s rows) => match tot == rows.length && decide (off + len ≤ tot) && s == sz && sizeIs H sz y with
        | true => some (.int .i64 (min new.length len : Nat), H.set id (.cells s (rows.take off ++ new.take len ++ rows.drop (off + min new.length len))), ((new.take len).map (edgesTo id)).flatten)
        | false => none
      | _ => none
    | _, _ => none
theorem e_copyS {P : AProg} (sz : Nat) (x y : Opd) (st : St) : evOp P.glob (CL P) st (.copyS sz x y) = copK st.H sz (x.get P.glob st) (y.get P.glob st) := by
  rfl
theorem edges_bools (id : Nat) (l : List Bool) : ((bl l).map (edgesTo id)).flatten = [] := by
  induction l with
  | nil => rfl
  | cons b l ih => simp only [bl, List.map_cons, List.flatten_cons] at ih ⊢; rw [ih]; rfl
theorem copK_bools {H : Heap} {id id2 L : Nat} {a b : List Bool} (h1 : H[id]? = some (.cells 1 (bl a))) (h2 : H[id2]? = some (.cells 1 (bl b))) (l1 : a.length = L) (l2 : b.length = L) : copK H 1 (.sl id 0 L L) (.sl id2 0 L L) = some (.int .i64 L, H.set id (.cells 1 (bl b)), []) := by
  have e1 : (bl a).length = L := by simpa using l1
  have e2 : (bl b).length = L := by simpa using l2
  have t2 : (bl b).take L = bl b := List.take_of_length_le (by omega)
  simp only [copK, rowsOf, h2, h1, sizeIs, e1, e2, beq_self_eq_true, Nat.zero_add, Nat.le_refl, decide_true, Bool.and_self, Bool.true_and, List.drop_zero, t2, Nat.min_self, List.take_zero, List.nil_append, edges_bools]
  rw [List.drop_eq_nil_of_le (by omega), List.append_nil]
section
variable (f : Fn) (sid iid n0 m1 x0 : Nat) (see : PV) (nd : Node) (H : Heap) (inn : List Bool) (hr : nd.Refs.length ≤ 1048576) (hb : f.Vars.length ≤ 1048576) (hl : inn.length = f.Vars.length)
  (hs : H[sid]? = some (.cells 9 [scell f iid see])) (hi : H[iid]? = some (.cells 1 (bl inn))) (hn : H[n0]? = some (.cells 1 [[.ptr sid 0 0 1]])) (hx : H[x0]? = some (.cells 8 [nd.cells]))
  (d1 : sid ≠ iid) (d2 : n0 ≠ iid) (d3 : x0 ≠ iid)
include hs hi hn d1 d2 hb hl
theorem es_set_true (hr : nd.Refs.length ≤ 1048576) (hx : H[x0]? = some (.cells 8 [nd.cells])) (d3 : x0 ≠ iid) : ES A n_zSw_S1 [.bool true, .ptr n0 0 0 1, .ptr m1 0 0 1, .ptr x0 0 0 1] H = some (.tup [], H.set iid (.cells 1 (bl (addRefs f.Vars.length nd.Refs inn))), []) := by
  have hlw := (lw_set f sid iid n0 m1 x0 see nd H hr hb (fun b => by rw [List.getElem?_set_ne (Ne.symm d1), hs]) (fun b => List.getElem?_set_self (some_lt hi)) (fun b => by rw [List.getElem?_set_ne (Ne.symm d2), hn]) (fun b => by rw [List.getElem?_set_ne (Ne.symm d3), hx]) (fun b b' => List.set_set ..) inn hl).1
  rw [set_same hi] at hlw
  have hA : addRefs f.Vars.length nd.Refs inn = iter (fun (i : Int) (a : List Bool) => addOne f.Vars.length nd.Refs i a) ((nd.Refs.length : Int) - 0).toNat 0 inn := rfl
  rw [← hA] at hlw
  simp only [Node.cells, ints] at hx
  simp -implicitDefEqProofs +contextual (disch := omega) only [s_zSw_S1, u_zSw_S1, rr_zSw_S1, ints, ↓XD, XU, ↓reduceIte, sevalprocAttr, hx, hlw]
  simp [trim_all]
theorem es_set_false (oid : Nat) (old : List Bool) (hm : H[m1]? = some (.cells 1 [[.sl oid 0 f.Vars.length f.Vars.length]])) (ho : H[oid]? = some (.cells 1 (bl old))) (lo : old.length = f.Vars.length) : ES A n_zSw_S1 [.bool false, .ptr n0 0 0 1, .ptr m1 0 0 1, .ptr x0 0 0 1] H = some (.tup [], H.set iid (.cells 1 (bl old)), []) := by
  have hc := copK_bools hi ho hl lo
  simp only [scell, strs, ups, nodes] at hs
  simp -implicitDefEqProofs +contextual (disch := omega) only [s_zSw_S1, u_zSw_S1, rr_zSw_S1, ↓e_copyS, ↓XD, XU, ↓reduceIte, sevalprocAttr, hs, hn, hm, hc]
  simp [trim_all]
end
end
end Go.Proofs.Try.Av
end
section
namespace Go.Proofs.Try.Av
open Go Go.Av Classical
section
structure FnT (f : Fn) : Prop extends FnOk f where
  h4 : ∀ n : Int, 0 ≤ n → n < f.Nodes.length → ¬bad4 f.Nodes n
  hsh : ∀ n : Int, 0 ≤ n → n < f.Nodes.length → Shape f.Nodes n
theorem count_take_two {l : List Int} {k i j : Int} (i0 : 0 ≤ i) (hij : i < j) (j1 : j < l.length) (hi : nth l i = k) (hj : nth l j = k) : 2 ≤ l.count k := by
  have h1 : l.take j.toNat ++ [nth l j] = l.take (j + 1).toNat := (take_one_more (by omega) j1).symm
  have h2 : (l.take (j + 1).toNat).count k ≤ l.count k := (List.take_sublist _ _).count_le _
  rw [← h1, List.count_append, hj] at h2
  have h3 : k ∈ l.take j.toNat := by
    have : i.toNat < (l.take j.toNat).length := by rw [List.length_take]; omega
    have e : (l.take j.toNat)[i.toNat] = k := by rw [List.getElem_take, ← nth_get i0 (by omega)]; exact hi
    exact e ▸ List.getElem_mem _
  have h4 := List.count_pos_iff.2 h3
  have h5 : List.count k [k] = 1 := by simp
  omega
theorem cnt_ge {ns : List Node} {k i : Int} (i0 : 0 ≤ i) : ∀ m : Nat, i < m → (m : Int) ≤ ns.length → (nth ns i).Kids.count k ≤ cnt ns k m := by
  intro m
  induction m with
  | zero => intro h; omega
  | succ m ih =>
    intro h1 h2
    have e := cnt_step ns k (i := (m : Int)) (by omega) (by omega)
    rw [show ((m : Int) + 1).toNat = m + 1 by omega, show ((m : Int)).toNat = m by omega] at e
    rw [e]
    by_cases h : i = m
    · subst h; omega
    · have := ih (by omega) (by omega); omega
section
variable {f : Fn} (hf : FnT f)
include hf
theorem FnT.kid {p j : Int} (p0 : 0 ≤ p) (p1 : p < f.Nodes.length) (j0 : 0 ≤ j) (j1 : j < (nth f.Nodes p).Kids.length) : 0 ≤ nth (nth f.Nodes p).Kids j ∧ nth (nth f.Nodes p).Kids j < p ∧ nth (growP f.Nodes) (nth (nth f.Nodes p).Kids j) = p := by
  have := hf.hg.hki p p0 p1 j j0 j1
  exact ⟨this.1, this.2, parent_is hf.hg.hki hf.h4 p0 p1 (nth_mem j0 j1)⟩
theorem FnT.once {p i j : Int} (p0 : 0 ≤ p) (p1 : p < f.Nodes.length) (i0 : 0 ≤ i) (i1 : i < (nth f.Nodes p).Kids.length) (j0 : 0 ≤ j) (j1 : j < (nth f.Nodes p).Kids.length) (h : nth (nth f.Nodes p).Kids i = nth (nth f.Nodes p).Kids j) : i = j := by
  have hk := hf.kid p0 p1 j0 j1
  have hc := cnt_ge (k := nth (nth f.Nodes p).Kids j) p0 f.Nodes.length p1 (Int.le_refl _)
  have hp : cnt f.Nodes (nth (nth f.Nodes p).Kids j) f.Nodes.length = 1 := by
    rcases growP_par f.Nodes hf.hg.hki _ hk.1 (by omega) with ⟨_, h⟩ | ⟨c, _⟩ | ⟨_, h⟩
    · omega
    · exact c
    · omega
  rcases Int.lt_trichotomy i j with h1 | h1 | h1
  · have := count_take_two i0 h1 j1 h rfl; omega
  · exact h1
  · have := count_take_two j0 h1 i1 rfl h; omega
theorem FnT.place {p j : Int} (p0 : 0 ≤ p) (p1 : p < f.Nodes.length) (j0 : 0 ≤ j) (j1 : j < (nth f.Nodes p).Kids.length) : place (nth f.Nodes p).Kids (nth (nth f.Nodes p).Kids j) = j := by
  have h := place_mem (nth_mem (l := (nth f.Nodes p).Kids) j0 j1)
  exact hf.once p0 p1 h.1 h.2.1 j0 j1 h.2.2
structure Ctx (f : Fn) (n : Int) (lp : Bool) (inn : List Bool) : Prop where
  len : inn.length = f.Vars.length
  vis : ∀ v : Int, 0 ≤ v → v < f.Vars.length → (nth inn v = true ↔ Visible f (growP f.Nodes) n v)
  loop : lp = true ↔ InLoop f.Nodes (growP f.Nodes) n (nth (growP f.Nodes) n)
theorem FnT.vis_kid {p j : Int} (p0 : 0 ≤ p) (p1 : p < f.Nodes.length) (j0 : 0 ≤ j) (j1 : j < (nth f.Nodes p).Kids.length) (v : Int) : Visible f (growP f.Nodes) (nth (nth f.Nodes p).Kids j) v ↔ Visible f (growP f.Nodes) p v ∨ Hit f.Nodes v (nth (nth f.Nodes p).Kids j) p := by
  have hk := hf.kid p0 p1 j0 j1
  simp only [Visible, hk.2.2]
  by_cases hh : Hit f.Nodes v (nth (nth f.Nodes p).Kids j) p
  · exact ⟨fun _ => .inr hh, fun _ => .inr (.hit p0 hh)⟩
  · rw [vis_up p0 hh]
    exact ⟨fun h => .inl h, fun h => h.resolve_right hh⟩
theorem FnT.loop_kid {p j : Int} (p0 : 0 ≤ p) (p1 : p < f.Nodes.length) (j0 : 0 ≤ j) (j1 : j < (nth f.Nodes p).Kids.length) : InLoop f.Nodes (growP f.Nodes) (nth (nth f.Nodes p).Kids j) (nth (growP f.Nodes) (nth (nth f.Nodes p).Kids j)) ↔ InLoop f.Nodes (growP f.Nodes) p (nth (growP f.Nodes) p) ∨ (((nth f.Nodes p).Kind = 6 ∨ (nth f.Nodes p).Kind = 7 ∨ (nth f.Nodes p).Kind = 8) ∧ j = (nth f.Nodes p).Kids.length - 1) := by
  have hk := hf.kid p0 p1 j0 j1
  have hL : LoopHit f.Nodes (nth (nth f.Nodes p).Kids j) p ↔ (((nth f.Nodes p).Kind = 6 ∨ (nth f.Nodes p).Kind = 7 ∨ (nth f.Nodes p).Kind = 8) ∧ j = (nth f.Nodes p).Kids.length - 1) := by
    simp only [LoopHit]
    constructor
    · rintro ⟨h1, h2⟩
      exact ⟨h1, (hf.once p0 p1 (by omega) (by omega) j0 j1 h2).symm⟩
    · rintro ⟨h1, h2⟩
      exact ⟨h1, by rw [← h2]⟩
  rw [hk.2.2, ← hL]
  by_cases hh : LoopHit f.Nodes (nth (nth f.Nodes p).Kids j) p
  · exact ⟨fun _ => .inr hh, fun _ => .hit p0 hh⟩
  · rw [inloop_up p0 hh]
    exact ⟨fun h => .inl h, fun h => h.resolve_right hh⟩
theorem Ctx.same {p j : Int} (p0 : 0 ≤ p) (p1 : p < f.Nodes.length) (j0 : 0 ≤ j) (j1 : j < (nth f.Nodes p).Kids.length) {lp : Bool} {inn : List Bool} (h : Ctx f p lp inn) (h1 : ¬(nth f.Nodes p).Kind = 1) (h2 : ((nth f.Nodes p).Kind = 6 ∨ (nth f.Nodes p).Kind = 7 ∨ (nth f.Nodes p).Kind = 8 ∨ (nth f.Nodes p).Kind = 12) → j < (nth f.Nodes p).Kids.length - 1) : Ctx f (nth (nth f.Nodes p).Kids j) lp inn := by
  refine ⟨h.len, fun v v0 v1 => ?_, ?_⟩
  · rw [h.vis v v0 v1, hf.vis_kid p0 p1 j0 j1 v]
    refine ⟨.inl, fun hh => hh.resolve_right ?_⟩
    rintro (⟨hk, _⟩ | ⟨hk, hp, _⟩)
    · exact h1 hk
    · rw [hf.place p0 p1 j0 j1] at hp
      have := h2 (by rcases hk with hk | hk | hk <;> simp [hk])
      omega
  · rw [h.loop, hf.loop_kid p0 p1 j0 j1]
    refine ⟨.inl, fun hh => hh.resolve_right ?_⟩
    rintro ⟨hk, hj⟩
    have := h2 (by rcases hk with hk | hk | hk <;> simp [hk])
    omega
theorem nth_addRefs (L : Nat) (refs : List Int) (a : List Bool) (ha : a.length = L) (v : Int) (v0 : 0 ≤ v) (v1 : v < L) : nth (addRefs L refs a) v = true ↔ nth a v = true ∨ v ∈ refs := by
  have := iter_inv (g := addOne L refs) (fun i (b : List Bool) => b.length = L ∧ ∀ v : Int, 0 ≤ v → v < L → (nth b v = true ↔ nth a v = true ∨ v ∈ refs.take i.toNat)) 0 (refs.length : Int) (by
    rintro i b i0 i1 ⟨hl, h⟩
    refine ⟨by simp only [addOne]; split <;> simpa using hl, fun v v0 v1 => ?_⟩
    rw [take_one_more i0 i1, List.mem_append, List.mem_singleton, ← or_assoc, ← h v v0 v1, addOne]
    by_cases hc : 0 ≤ nth refs i ∧ nth refs i < L
    · rw [if_pos hc, nth_set hc.1 (by omega) v0]
      by_cases he : nth refs i = v
      · rw [if_pos he]; simp [he]
      · rw [if_neg he]
        exact ⟨.inl, fun h => h.resolve_right (fun e => he e.symm)⟩
    · rw [if_neg hc]
      exact ⟨.inl, fun h => h.resolve_right (fun e => hc (e ▸ ⟨v0, v1⟩))⟩) (a := a) (by omega) ⟨ha, fun v v0 v1 => by simp⟩
  have h2 := this.2 v v0 v1
  rw [show refs.take (refs.length : Int).toNat = refs by simp] at h2
  exact h2
theorem place_iff (l : List Int) (x : Int) : 0 ≤ place l x ↔ x ∈ l := ⟨fun h => (place_nonneg h).1, fun h => (place_mem h).1⟩
theorem Ctx.last {p j : Int} (p0 : 0 ≤ p) (p1 : p < f.Nodes.length) (j0 : 0 ≤ j) (j1 : j = (nth f.Nodes p).Kids.length - 1) {lp : Bool} {inn : List Bool} (h : Ctx f p lp inn) (hk : (nth f.Nodes p).Kind = 7 ∨ (nth f.Nodes p).Kind = 8 ∨ (nth f.Nodes p).Kind = 12) : Ctx f (nth (nth f.Nodes p).Kids j) (if (nth f.Nodes p).Kind = 12 then lp else true) (addRefs f.Vars.length (nth f.Nodes p).Refs inn) := by
  refine ⟨by rw [addRefs_length]; exact h.len, fun v v0 v1 => ?_, ?_⟩
  · rw [nth_addRefs hf _ _ _ h.len v v0 v1, h.vis v v0 v1, hf.vis_kid p0 p1 j0 (by omega) v]
    have : Hit f.Nodes v (nth (nth f.Nodes p).Kids j) p ↔ v ∈ (nth f.Nodes p).Refs := by
      rw [← place_iff hf]
      constructor
      · rintro (⟨h1, _⟩ | ⟨_, _, hd⟩)
        · omega
        · exact hd.2
      · intro h2
        exact .inr ⟨hk, by rw [hf.place p0 p1 j0 (by omega)]; exact j1, by rcases hk with e | e | e <;> simp [e], h2⟩
    rw [this]
  · rw [hf.loop_kid p0 p1 j0 (by omega)]
    by_cases h12 : (nth f.Nodes p).Kind = 12
    · rw [if_pos h12, h.loop]
      exact ⟨.inl, fun hh => hh.resolve_right (fun h2 => by omega)⟩
    · rw [if_neg h12]
      exact ⟨fun _ => .inr ⟨by omega, j1⟩, fun _ => rfl⟩
theorem Ctx.body {p j : Int} (p0 : 0 ≤ p) (p1 : p < f.Nodes.length) (j0 : 0 ≤ j) (j1 : j = (nth f.Nodes p).Kids.length - 1) {lp : Bool} {inn : List Bool} (h : Ctx f p lp inn) (hk : (nth f.Nodes p).Kind = 6) : Ctx f (nth (nth f.Nodes p).Kids j) true inn := by
  refine ⟨h.len, fun v v0 v1 => ?_, ?_⟩
  · rw [h.vis v v0 v1, hf.vis_kid p0 p1 j0 (by omega) v]
    refine ⟨.inl, fun hh => hh.resolve_right ?_⟩
    rintro (⟨h1, _⟩ | ⟨h1, _⟩) <;> omega
  · rw [hf.loop_kid p0 p1 j0 (by omega)]
    exact ⟨fun _ => .inr ⟨by omega, j1⟩, fun _ => rfl⟩
theorem Ctx.block {p j : Int} (p0 : 0 ≤ p) (p1 : p < f.Nodes.length) (j0 : 0 ≤ j) (j1 : j < (nth f.Nodes p).Kids.length) {lp : Bool} {inn inn' : List Bool} (h : Ctx f p lp inn) (hk : (nth f.Nodes p).Kind = 1) (hl : inn'.length = f.Vars.length) (hi : ∀ v : Int, 0 ≤ v → v < f.Vars.length → (nth inn' v = true ↔ nth inn v = true ∨ ∃ i : Int, 0 ≤ i ∧ i < j ∧ (nth f.Nodes (nth (nth f.Nodes p).Kids i)).Kind = 2 ∧ v ∈ (nth f.Nodes (nth (nth f.Nodes p).Kids i)).Refs)) : Ctx f (nth (nth f.Nodes p).Kids j) lp inn' := by
  refine ⟨hl, fun v v0 v1 => ?_, ?_⟩
  · rw [hi v v0 v1, h.vis v v0 v1, hf.vis_kid p0 p1 j0 j1 v]
    have : Hit f.Nodes v (nth (nth f.Nodes p).Kids j) p ↔ ∃ i : Int, 0 ≤ i ∧ i < j ∧ (nth f.Nodes (nth (nth f.Nodes p).Kids i)).Kind = 2 ∧ v ∈ (nth f.Nodes (nth (nth f.Nodes p).Kids i)).Refs := by
      simp only [Hit, hf.place p0 p1 j0 j1]
      constructor
      · rintro (⟨_, i, i0, i1, i2, i3⟩ | ⟨h1, _⟩)
        · exact ⟨i, i0, i1, i2, (place_iff hf _ _).1 i3.2⟩
        · omega
      · rintro ⟨i, i0, i1, i2, i3⟩
        exact .inl ⟨hk, i, i0, i1, i2, by simp, (place_iff hf _ _).2 i3⟩
    rw [this]
  · rw [h.loop, hf.loop_kid p0 p1 j0 j1]
    exact ⟨.inl, fun hh => hh.resolve_right (fun h2 => by omega)⟩
end
end
end Go.Proofs.Try.Av
end
section
attribute [local congr] ite_congr
set_option maxRecDepth 10000
set_option maxHeartbeats 400000
namespace Go.Proofs.Try.Av
open Go Go.Av Classical
section
structure Step (cid : Nat) (H H' : Heap) (ed : Edges) : Prop where
  len : H.length ≤ H'.length
  same : ∀ id, id < H.length → id ≠ cid → H'[id]? = H[id]?
  fw : ∀ b r, H'[cid]? = some b → r ∈ brefs b → (∃ b0, H[cid]? = some b0 ∧ r ∈ brefs b0) ∨ (cid, r) ∈ ed
  bd : ∀ e ∈ ed, (e.1 = cid ∧ cid < e.2) ∧ e.2 < H'.length
structure Fr (cid iid : Nat) (H0 H : Heap) (ed : Edges) (inn : List Bool) : Prop where
  len : H0.length ≤ H.length
  same : ∀ id, id < H0.length → id ≠ cid → id ≠ iid → H[id]? = H0[id]?
  inn : H[iid]? = some (.cells 1 (bl inn))
  fw : ∀ b r, H[cid]? = some b → r ∈ brefs b → (∃ b0, H0[cid]? = some b0 ∧ r ∈ brefs b0) ∨ (cid, r) ∈ ed
  bd : ∀ e ∈ ed, (e.1 = cid ∧ cid < e.2) ∧ e.2 < H.length
inductive Sub (ns : List Node) : Int → Int → Prop
  | self (n : Int) : Sub ns n n
  | kid {n j m : Int} : 0 ≤ j → j < (nth ns n).Kids.length → Sub ns (nth (nth ns n).Kids j) m → Sub ns n m
structure See (f : Fn) (sid iid cid base g : Nat) (caps : List PV) where
  Acc : (Int → Prop) → Heap → Prop
  Pre : Heap → Prop
  stable : ∀ V H H', Acc V H → H'[cid]? = H[cid]? → (∀ b r, H[cid]? = some b → r ∈ brefs b → H'[r]? = H[r]?) → Acc V H'
  maps : ∀ V H, Acc V H → ∀ b r, H[cid]? = some b → r ∈ brefs b → ∃ es, H[r]? = some (.map es)
  pre : ∀ H H', Pre H → (∀ id, id < base → id ≠ cid → id ≠ iid → H'[id]? = H[id]?) → Pre H'
  see : ∀ (n : Int) lp inn V H, 0 ≤ n → n < f.Nodes.length → Ctx f n lp inn → base ≤ H.length → Pre H → H[iid]? = some (.cells 1 (bl inn)) → Acc V H → ∃ H' ed', ES A g (.int .i64 n :: .sl iid 0 f.Vars.length f.Vars.length :: .bool lp :: caps) H = some (.tup [], H', ed') ∧ Acc (fun m => V m ∨ m = n) H' ∧ Step cid H H' ed'
  c1 : cid < base
  i1 : iid < base
  s1 : sid < base
  ci : cid ≠ iid
  cs : cid ≠ sid
  is : iid ≠ sid
def appK : Option (List (List PV)) → Bool → Heap → Nat → Nat → PV → Option (PV × Heap × Edges)
  | some new, true, H, sz, bytes, x => appendTo H sz bytes x new
  | _, _, _, _, _, _ => none
theorem e_append {P : AProg} (sz bytes : Nat) (x y : Opd) (st : St) : evOp P.glob (CL P) st (.append sz bytes x y) = appK (rowsOf st.H (y.get P.glob st)) (sizeIs st.H sz (y.get P.glob st)) st.H sz bytes (x.get P.glob st) := by
  show (match rowsOf st.H (y.get P.glob st), sizeIs st.H sz (y.get P.glob st) with | some new, true => appendTo st.H sz bytes (x.get P.glob st) new | _, _ => none) = _
  cases rowsOf st.H (y.get P.glob st) <;> cases sizeIs st.H sz (y.get P.glob st) <;> rfl
theorem appK_some (new : List (List PV)) (H : Heap) (sz bytes : Nat) (x : PV) : appK (some new) true H sz bytes x = appendTo H sz bytes x new := rfl
theorem appendTo_nils (H : Heap) (sz bytes : Nat) (new : List (List PV)) (h : new.length * bytes ≤ 35184372088832) : appendTo H sz bytes .nils new = some (.sl H.length 0 new.length new.length, H ++ [.cells sz new], []) := by
  simp [appendTo, h]
theorem rows_of {H : Heap} {id L : Nat} {a : List Bool} (h : H[id]? = some (.cells 1 (bl a))) (hl : a.length = L) : rowsOf H (.sl id 0 L L) = some (bl a) ∧ sizeIs H 1 (.sl id 0 L L) = true := by
  have e1 : (bl a).length = L := by simpa using hl
  refine ⟨?_, by simp [sizeIs, h]⟩
  simp only [rowsOf, h, e1, beq_self_eq_true, Nat.zero_add, Nat.le_refl, decide_true, Bool.and_self, List.drop_zero]
  rw [List.take_of_length_le (by omega)]
theorem trim_cases (k : Nat) (roots : List PV) (H : Heap) (ed : Edges) : trim k roots H ed = (H, ed) ∨ (trim k roots H ed = (H.take k, ed.filter fun e => decide (e.2 < k)) ∧ ∀ e ∈ ed, k ≤ e.1 ∨ e.2 < k) := by
  rw [trim]
  cases h : bare k (refsL roots) && ed.all fun e => decide (k ≤ e.1) || decide (e.2 < k) with
  | false => exact .inl rfl
  | true =>
    right
    refine ⟨rfl, fun e he => ?_⟩
    rw [Bool.and_eq_true] at h
    have := List.all_eq_true.1 h.2 e he
    simpa using this
section
variable {f : Fn} {sid iid cid base g : Nat} {caps : List PV} (S : See f sid iid cid base g caps)
theorem Fr.cut {H0 H : Heap} {ed : Edges} {inn : List Bool} {V V0 : Int → Prop} (h : Fr cid iid H0 H ed inn) (hA0 : S.Acc V0 H0) (hA : S.Acc V H) (hb : base ≤ H0.length) (k : Nat) (hk : H0.length ≤ k) (hkH : k ≤ H.length) (roots : List PV) :
    Fr cid iid H0 (trim k roots H ed).1 (trim k roots H ed).2 inn ∧ S.Acc V (trim k roots H ed).1 ∧ k ≤ (trim k roots H ed).1.length ∧ ∀ id, id < k → (trim k roots H ed).1[id]? = H[id]? := by
  have hc := S.c1
  have hi := S.i1
  rcases trim_cases k roots H ed with e | ⟨e, he⟩
  · rw [e]; exact ⟨h, hA, hkH, fun _ _ => rfl⟩
  · rw [e]
    have ht : ∀ id, id < k → (H.take k)[id]? = H[id]? := fun id hid => by rw [List.getElem?_take, if_pos hid]
    have hfw : ∀ b r, H[cid]? = some b → r ∈ brefs b → (∃ b0, H0[cid]? = some b0 ∧ r ∈ brefs b0) ∨ ((cid, r) ∈ ed ∧ r < k) := fun b r hb2 hr => by
      rcases h.fw b r hb2 hr with h1 | h1
      · exact .inl h1
      · rcases he _ h1 with h2 | h2
        · dsimp only at h2; omega
        · exact .inr ⟨h1, h2⟩
    have hr : ∀ b r, H[cid]? = some b → r ∈ brefs b → r < k := fun b r hb2 hr => by
      rcases hfw b r hb2 hr with ⟨b0, h1, h2⟩ | ⟨_, h2⟩
      · obtain ⟨es, h3⟩ := S.maps V0 H0 hA0 b0 r h1 h2
        have := some_lt h3; omega
      · exact h2
    refine ⟨⟨?_, fun id h1 h2 h3 => ?_, ?_, fun b r hb2 hr2 => ?_, fun e he3 => ?_⟩, ?_, ?_, ht⟩
    · show H0.length ≤ (H.take k).length; rw [List.length_take]; omega
    · show (H.take k)[id]? = _; rw [ht id (by omega), h.same id h1 h2 h3]
    · show (H.take k)[iid]? = _; rw [ht iid (by omega), h.inn]
    · have hb3 : H[cid]? = some b := by rw [← ht cid (by omega)]; exact hb2
      rcases hfw b r hb3 hr2 with h1 | ⟨h1, h2⟩
      · exact .inl h1
      · exact .inr (List.mem_filter.2 ⟨h1, by simpa using h2⟩)
    · have h5 := List.mem_filter.1 he3
      exact ⟨(h.bd e h5.1).1, by show e.2 < (H.take k).length; rw [List.length_take]; have := h5.2; simp at this; omega⟩
    · exact S.stable V H _ hA (ht cid (by omega)) (fun b r hb2 hr2 => ht r (hr b r hb2 hr2))
    · show k ≤ (H.take k).length; rw [List.length_take]; omega
include S in
theorem Fr.step {H0 H H' : Heap} {ed ed' : Edges} {inn : List Bool} (h : Fr cid iid H0 H ed inn) (hs : Step cid H H' ed') (hb : base ≤ H0.length) : Fr cid iid H0 H' (ed' ++ ed) inn := by
  have hc := S.c1
  have hi := S.i1
  have hl := h.len
  refine ⟨Nat.le_trans hl hs.len, fun id h1 h2 h3 => by rw [hs.same id (by omega) h2, h.same id h1 h2 h3], by rw [hs.same iid (by omega) (Ne.symm S.ci), h.inn], fun b r hb2 hr => ?_, fun e he => ?_⟩
  rcases hs.fw b r hb2 hr with ⟨b0, h1, h2⟩ | h1
  · rcases h.fw b0 r h1 h2 with h3 | h3
    · exact .inl h3
    · exact .inr (List.mem_append_right _ h3)
  · exact .inr (List.mem_append_left _ h1)
  · have hl2 := hs.len
    rcases List.mem_append.1 he with h1 | h1
    · exact hs.bd e h1
    · have := h.bd e h1; exact ⟨this.1, by omega⟩
theorem Fr.start {H0 : Heap} {inn : List Bool} (hi : H0[iid]? = some (.cells 1 (bl inn))) : Fr cid iid H0 H0 [] inn := ⟨Nat.le_refl _, fun _ _ _ _ => rfl, hi, fun b r h1 h2 => .inl ⟨b, h1, h2⟩, fun e he => by cases he⟩
theorem Fr.app {H0 H : Heap} {ed : Edges} {inn : List Bool} {V : Int → Prop} (h : Fr cid iid H0 H ed inn) (hA : S.Acc V H) (hb : base ≤ H0.length) (l : Heap) (ed2 : Edges) (h2 : ∀ e ∈ ed2, (e.1 = cid ∧ cid < e.2) ∧ e.2 < (H ++ l).length := by simp) : Fr cid iid H0 (H ++ l) (ed2 ++ ed) inn ∧ S.Acc V (H ++ l) := by
  have hc := S.c1
  have hi := S.i1
  have hl := h.len
  have ha : ∀ id, id < H.length → (H ++ l)[id]? = H[id]? := fun id hid => List.getElem?_append_left hid
  refine ⟨⟨by rw [List.length_append]; omega, fun id h1 h2 h3 => by rw [ha id (by omega), h.same id h1 h2 h3], by rw [ha iid (by omega), h.inn], fun b r hb2 hr => ?_, fun e he => ?_⟩, ?_⟩
  · rw [ha cid (by omega)] at hb2
    rcases h.fw b r hb2 hr with h3 | h3
    · exact .inl h3
    · exact .inr (List.mem_append_right _ h3)
  · rcases List.mem_append.1 he with h1 | h1
    · exact h2 e h1
    · have := h.bd e h1; exact ⟨this.1, by rw [List.length_append]; omega⟩
  · refine S.stable V H _ hA (ha cid (by omega)) fun b r hb2 hr => ?_
    obtain ⟨es, h3⟩ := S.maps V H hA b r hb2 hr
    exact ha r (some_lt h3)
def WalkOk (n : Int) : Prop := ∀ lp inn V H, Ctx f n lp inn → base ≤ H.length → S.Pre H → H[sid]? = some (.cells 9 [scell f iid (.fn g caps)]) → H[iid]? = some (.cells 1 (bl inn)) → S.Acc V H →
  ∃ H' ed', ES A n_zSw [.ptr sid 0 0 1, .int .i64 n, .bool lp] H = some (.tup [], H', ed') ∧ S.Acc (fun m => V m ∨ Sub f.Nodes n m) H' ∧ Step cid H H' ed'
structure KInv (own : List (Nat × Blk)) (H0 : Heap) (nd : Node) (n : Int) (inn : List Bool) (V : Int → Prop) (i : Int) (H : Heap) (ed : Edges) : Prop where
  fr : Fr cid iid H0 H ed inn
  bx : H[H0.length]? = some (.cells 1 [[.ptr sid 0 0 1]])
  nx : H[H0.length + 1]? = some (.cells 8 [nd.cells])
  ow : ∀ p ∈ own, H0.length ≤ p.1 ∧ H[p.1]? = some p.2
  acc : S.Acc (fun m => (V m ∨ m = n) ∨ ∃ j : Int, 0 ≤ j ∧ j < i ∧ Sub f.Nodes (nth nd.Kids j) m) H
theorem lw_kids (hf : FnT f) (n : Int) (n0 : 0 ≤ n) (n1 : n < f.Nodes.length) (lp : Bool) (inn : List Bool) (V V0 : Int → Prop) (H0 : Heap) (hb : base ≤ H0.length) (hA0 : S.Acc V0 H0) (hP : S.Pre H0) (hs : H0[sid]? = some (.cells 9 [scell f iid (.fn g caps)]))
    (v6 v7 v8 v47 : PV) (r6 : refs v6 = [H0.length + 1])
    (hc : ∀ j : Int, 0 ≤ j → j < (nth f.Nodes n).Kids.length → Ctx f (nth (nth f.Nodes n).Kids j) lp inn) (hw : ∀ j : Int, 0 ≤ j → j < (nth f.Nodes n).Kids.length → WalkOk S (nth (nth f.Nodes n).Kids j))
    (own : List (Nat × Blk)) (H : Heap) (ed : Edges) (hK : KInv S own H0 (nth f.Nodes n) n inn V 0 H ed) :
    ∃ H' ed', EV A (.loop (B_zSw 4)) ⟨[(0, .ptr sid 0 0 1), (1, .int .i64 n), (2, .bool lp), (3, .ptr H0.length 0 0 1), (6, v6), (7, v7), (8, v8), (47, v47), (143, .bool false), (49, ints (nth f.Nodes n).Kids), (50, .int .i64 (nth f.Nodes n).Kids.length), (51, .int .i64 0)], [], H, ed⟩ = some (.exit 1, ⟨[(0, .ptr sid 0 0 1), (1, .int .i64 n), (2, .bool lp), (3, .ptr H0.length 0 0 1), (6, v6), (7, v7), (8, v8), (47, v47), (143, .bool false), (49, ints (nth f.Nodes n).Kids), (50, .int .i64 (nth f.Nodes n).Kids.length), (51, .int .i64 (nth f.Nodes n).Kids.length)], [], H', ed'⟩) ∧ KInv S own H0 (nth f.Nodes n) n inn V (nth f.Nodes n).Kids.length H' ed' := by
  have hkl := (hf.hg.hsz n).2
  obtain ⟨r, e, H', ed', rfl, h⟩ := loop_ind (P := A) (body := (B_zSw 4)) (fun a : Int × Heap × Edges => ⟨[(0, .ptr sid 0 0 1), (1, .int .i64 n), (2, .bool lp), (3, .ptr H0.length 0 0 1), (6, v6), (7, v7), (8, v8), (47, v47), (143, .bool false), (49, ints (nth f.Nodes n).Kids), (50, .int .i64 (nth f.Nodes n).Kids.length), (51, .int .i64 a.1)], [], a.2.1, a.2.2⟩)
    (fun a => 0 ≤ a.1 ∧ a.1 ≤ (nth f.Nodes n).Kids.length ∧ KInv S own H0 (nth f.Nodes n) n inn V a.1 a.2.1 a.2.2) (fun a => ((nth f.Nodes n).Kids.length - a.1).toNat)
    (fun a r => ∃ H' ed', r = (AExit.exit 1, (⟨[(0, .ptr sid 0 0 1), (1, .int .i64 n), (2, .bool lp), (3, .ptr H0.length 0 0 1), (6, v6), (7, v7), (8, v8), (47, v47), (143, .bool false), (49, ints (nth f.Nodes n).Kids), (50, .int .i64 (nth f.Nodes n).Kids.length), (51, .int .i64 (nth f.Nodes n).Kids.length)], [], H', ed'⟩ : St)) ∧ KInv S own H0 (nth f.Nodes n) n inn V (nth f.Nodes n).Kids.length H' ed') (by
    rintro ⟨i, H, ed⟩ ⟨i0, i1, hK⟩
    dsimp only at i0 i1 hK ⊢
    by_cases hn : i = (nth f.Nodes n).Kids.length
    · left
      subst hn
      exact ⟨_, by simp -implicitDefEqProofs +contextual (disch := omega) only [ub_zSw_4, rr_zSw, ints, ↓XD, XU, ↓reduceIte, sevalprocAttr, Int.lt_irrefl], by simp, H, ed, rfl, hK⟩
    · right
      have i2 : i < (nth f.Nodes n).Kids.length := by omega
      have hl := hK.fr.len
      have hcc := S.c1
      have hss : H[sid]? = some (.cells 9 [scell f iid (.fn g caps)]) := by rw [hK.fr.same sid (by have := S.s1; omega) (Ne.symm S.cs) (Ne.symm S.is), hs]
      obtain ⟨H', ed', he, hA, hS⟩ := hw i i0 i2 lp inn _ H (hc i i0 i2) (by omega) (S.pre H0 H hP (fun id h1 h2 h3 => hK.fr.same id (by omega) h2 h3)) hss hK.fr.inn hK.acc
      have hF := hK.fr.step S hS hb
      have hbx := hK.bx
      have hF2 := Fr.cut S hF hA0 hA hb H.length hl hS.len
      refine ⟨(i + 1, trim H.length [.ptr sid 0 0 1, .int .i64 n, .bool lp, .ptr H0.length 0 0 1, v6, v7, v8, v47, .bool false, ints (nth f.Nodes n).Kids, .int .i64 (nth f.Nodes n).Kids.length, .int .i64 (i + 1)] H' (ed' ++ ed)), _, ⟨by omega, by omega, ?_⟩, by dsimp only; omega, by (simp -implicitDefEqProofs +contextual (disch := omega) only [ub_zSw_4, rr_zSw, ints, ↓XD, XU, ↓reduceIte, sevalprocAttr, i2, hbx, he]) <;> rfl, ?_, ?_⟩
      · have hF2 := hF2 [.ptr sid 0 0 1, .int .i64 n, .bool lp, .ptr H0.length 0 0 1, v6, v7, v8, v47, .bool false, ints (nth f.Nodes n).Kids, .int .i64 (nth f.Nodes n).Kids.length, .int .i64 (i + 1)]
        have hb1 := some_lt hK.bx
        have hb2 := some_lt hK.nx
        refine ⟨hF2.1, by rw [hF2.2.2.2 _ hb1, hS.same _ hb1 (by omega), hK.bx], by rw [hF2.2.2.2 _ hb2, hS.same _ hb2 (by omega), hK.nx], fun p hp => by
          obtain ⟨o1, o2⟩ := hK.ow p hp
          have o3 := some_lt o2
          exact ⟨o1, by rw [hF2.2.2.2 _ o3, hS.same _ o3 (by omega), o2]⟩, ?_⟩
        have := hF2.2.1
        refine cast (congrArg (fun P => S.Acc P _) (funext fun m => propext ?_)) this
        constructor
        · rintro (h | h)
          · rcases h with h | ⟨j, j0, j1, h⟩
            · exact .inl h
            · exact .inr ⟨j, j0, by omega, h⟩
          · exact .inr ⟨i, i0, by omega, h⟩
        · rintro (h | ⟨j, j0, j1, h⟩)
          · exact .inl (.inl h)
          · by_cases hj : j = i
            · subst hj; exact .inr h
            · exact .inl (.inr ⟨j, j0, by omega, h⟩)
      · simp [St.next, ints]
      · rintro r ⟨H', ed', rfl, h⟩; exact ⟨H', ed', rfl, h⟩) (0, H, ed) ⟨Int.le_refl _, by omega, hK⟩
  exact ⟨H', ed', e, h⟩
end
end
section
theorem sub_iff (ns : List Node) (n m : Int) : Sub ns n m ↔ m = n ∨ ∃ j : Int, 0 ≤ j ∧ j < (nth ns n).Kids.length ∧ Sub ns (nth (nth ns n).Kids j) m := by
  constructor
  · intro h
    cases h with
    | self => exact .inl rfl
    | kid j0 j1 h => exact .inr ⟨_, j0, j1, h⟩
  · rintro (h | ⟨j, j0, j1, h⟩)
    · subst h; exact .self _
    · exact .kid j0 j1 h
section
variable {f : Fn} {sid iid cid base g : Nat} {caps : List PV} (S : See f sid iid cid base g caps)
theorem Fr.fin {H0 H : Heap} {ed : Edges} {inn : List Bool} {V V0 : Int → Prop} (h : Fr cid iid H0 H ed inn) (hi : H0[iid]? = some (.cells 1 (bl inn))) (hA0 : S.Acc V0 H0) (hA : S.Acc V H) (hb : base ≤ H0.length) (roots : List PV) :
    Step cid H0 (trim H0.length roots H ed).1 (trim H0.length roots H ed).2 ∧ S.Acc V (trim H0.length roots H ed).1 := by
  have hc := h.cut S hA0 hA hb H0.length (Nat.le_refl _) h.len roots
  refine ⟨⟨hc.1.len, fun id h1 h2 => ?_, hc.1.fw, hc.1.bd⟩, hc.2.1⟩
  by_cases he : id = iid
  · subst he; rw [hc.1.inn, hi]
  · exact hc.1.same id h1 h2 he
structure Pro (H0 H1 : Heap) (e1 : Edges) (n : Int) (lp : Bool) (inn : List Bool) (V : Int → Prop) : Prop where
  he : ES A g (.int .i64 n :: .sl iid 0 f.Vars.length f.Vars.length :: .bool lp :: caps) (H0 ++ [.cells 1 [[.ptr sid 0 0 1]], .cells 8 [(nth f.Nodes n).cells]]) = some (.tup [], H1, e1)
  s0 : ∀ l, (H0 ++ l)[sid]? = some (.cells 9 [scell f iid (.fn g caps)])
  q0 : H1[sid]? = some (.cells 9 [scell f iid (.fn g caps)])
  q00 : H1[H0.length]? = some (.cells 1 [[.ptr sid 0 0 1]])
  q1 : ∀ l, (H1 ++ l)[sid]? = some (.cells 9 [scell f iid (.fn g caps)])
  q2 : ∀ l, (H1 ++ l)[H0.length]? = some (.cells 1 [[.ptr sid 0 0 1]])
  q3 : ∀ l, (H1 ++ l)[H0.length + 1]? = some (.cells 8 [(nth f.Nodes n).cells])
  r1 : rowsOf H1 (.sl iid 0 f.Vars.length f.Vars.length) = some (bl inn)
  r2 : sizeIs H1 1 (.sl iid 0 f.Vars.length f.Vars.length) = true
  nl : ¬H1.length + 1 < H1.length
  n1 : H0.length + 1 < H1.length
  kinv : KInv S [(H1.length, .cells 1 (bl inn)), (H1.length + 1, .cells 1 [[.sl H1.length 0 f.Vars.length f.Vars.length]])] H0 (nth f.Nodes n) n inn V 0 (H1 ++ [.cells 1 (bl inn), .cells 1 [[.sl H1.length 0 f.Vars.length f.Vars.length]]]) e1
theorem walk_pro (n : Int) (n0 : 0 ≤ n) (n1 : n < f.Nodes.length) (lp : Bool) (inn : List Bool) (V : Int → Prop) (H0 : Heap) (hc : Ctx f n lp inn) (hb : base ≤ H0.length) (hP : S.Pre H0) (hs : H0[sid]? = some (.cells 9 [scell f iid (.fn g caps)])) (hi : H0[iid]? = some (.cells 1 (bl inn))) (hA : S.Acc V H0) : ∃ H1 e1, Pro S H0 H1 e1 n lp inn V := by
  have c1 := S.c1
  have i1 := S.i1
  have s1 := S.s1
  have hF0 : Fr cid iid H0 H0 [] inn := Fr.start hi
  obtain ⟨hF, hA2⟩ := hF0.app S hA hb [.cells 1 [[.ptr sid 0 0 1]], .cells 8 [(nth f.Nodes n).cells]] []
  rw [List.append_nil] at hF
  have hP2 : S.Pre (H0 ++ [.cells 1 [[.ptr sid 0 0 1]], .cells 8 [(nth f.Nodes n).cells]]) := S.pre H0 _ hP fun id h1 h2 h3 => hF.same id (by omega) h2 h3
  obtain ⟨H1, e1, he, hA3, hS⟩ := S.see n lp inn V _ n0 n1 hc (by rw [List.length_append]; omega) hP2 hF.inn hA2
  have hF3 := hF.step S hS hb
  rw [List.append_nil] at hF3
  have hl : (H0 ++ [Blk.cells 1 [[.ptr sid 0 0 1]], .cells 8 [(nth f.Nodes n).cells]]).length = H0.length + 2 := by simp
  have hl1 := hS.len
  rw [hl] at hl1
  have hq0 : H1[sid]? = some (.cells 9 [scell f iid (.fn g caps)]) := by rw [hS.same sid (by omega) (Ne.symm S.cs), List.getElem?_append_left (by omega), hs]
  have hq2 : H1[H0.length]? = some (.cells 1 [[.ptr sid 0 0 1]]) := by rw [hS.same _ (by omega) (by omega), app_get0]; rfl
  have hq3 : H1[H0.length + 1]? = some (.cells 8 [(nth f.Nodes n).cells]) := by rw [hS.same _ (by omega) (by omega), app_get]; rfl
  have hr := rows_of hF3.inn hc.len
  obtain ⟨hF4, hA4⟩ := hF3.app S hA3 hb [.cells 1 (bl inn), .cells 1 [[.sl H1.length 0 f.Vars.length f.Vars.length]]] []
  rw [List.nil_append] at hF4
  refine ⟨H1, e1, he, fun l => app_old _ _ hs, hq0, hq2, fun l => app_old _ _ hq0, fun l => app_old _ _ hq2, fun l => app_old _ _ hq3, hr.1, hr.2, by omega, by omega, hF4, app_old _ _ hq2, app_old _ _ hq3, fun p hp => by
    simp only [List.mem_cons, List.not_mem_nil, or_false] at hp
    rcases hp with rfl | rfl
    · exact ⟨by dsimp only; omega, by rw [app_get0]; rfl⟩
    · exact ⟨by dsimp only; omega, by rw [app_get]; rfl⟩, ?_⟩
  refine cast (congrArg (fun P => S.Acc P _) (funext fun m => propext ?_)) hA4
  exact ⟨.inl, fun h => h.elim id (fun ⟨j, j0, j1, _⟩ => by omega)⟩
theorem walk_default (hf : FnT f) (hb0 : f.Vars.length ≤ 1048576) (n : Int) (n0 : 0 ≤ n) (n1 : n < f.Nodes.length) (hK : ¬(nth f.Nodes n).Kind = 1 ∧ ¬(nth f.Nodes n).Kind = 7 ∧ ¬(nth f.Nodes n).Kind = 8 ∧ ¬(nth f.Nodes n).Kind = 6 ∧ ¬(nth f.Nodes n).Kind = 12)
    (hw : ∀ j : Int, 0 ≤ j → j < (nth f.Nodes n).Kids.length → WalkOk S (nth (nth f.Nodes n).Kids j)) : WalkOk S n := by
  intro lp inn V H0 hc hb hP hs hi hA
  obtain ⟨H1, e1, p⟩ := walk_pro S n n0 n1 lp inn V H0 hc hb hP hs hi hA
  obtain ⟨H', ed', el, hk⟩ := lw_kids S hf n n0 n1 lp inn V V H0 hb hA hP hs (.ptr (H0.length + 1) 0 0 1) (.ptr (H1.length + 1) 0 0 1) (.fn n_zSw_S1 [.ptr H0.length 0 0 1, .ptr (H1.length + 1) 0 0 1, .ptr (H0.length + 1) 0 0 1]) (.int .i64 (nth f.Nodes n).Kind) rfl
    (fun j j0 j1 => hc.same hf n0 n1 j0 j1 hK.1 (fun h => by omega)) hw _ _ _ p.kinv
  have hfin := hk.fr.fin S hi hA hk.acc hb []
  refine ⟨(trim H0.length [] H' ed').1, (trim H0.length [] H' ed').2, ?_, ?_, hfin.1⟩
  · have s0 := p.s0
    have q0 := p.q0
    have q1 := p.q1
    have q3 := p.q3
    have he := p.he
    simp only [scell, strs, ups, nodes] at s0 q1 q0
    simp only [Node.cells, ints] at q3 he
    have hlb : (bl inn).length * 1 ≤ 35184372088832 := by have := hc.len; simp; omega
    have ha := appendTo_nils H1 1 1 (bl inn) hlb
    have hl := hc.len
    simp only [ints] at el
    simp -implicitDefEqProofs +contextual (disch := omega) only [s_zSw, u_zSw, rr_zSw, scell, strs, ups, nodes, Node.cells, ints, ↓e_append, appK_some, ↓XD, XU, ↓reduceIte, sevalprocAttr, s0, he, q0, p.q00, q1, p.q2, q3, p.r1, p.r2, ha, hl, hK, p.nl, el]
  · refine cast (congrArg (fun P => S.Acc P _) (funext fun m => propext ?_)) hfin.2
    rw [sub_iff, or_assoc]
end
end
section
section
variable {f : Fn} {sid iid cid base g : Nat} {caps : List PV} (S : See f sid iid cid base g caps)
structure KB (own : List (Nat × Blk)) (H0 : Heap) (nd : Node) (inn : List Bool) (W : Int → Prop) (H : Heap) (ed : Edges) : Prop where
  fr : Fr cid iid H0 H ed inn
  bx : H[H0.length]? = some (.cells 1 [[.ptr sid 0 0 1]])
  nx : H[H0.length + 1]? = some (.cells 8 [nd.cells])
  ow : ∀ p ∈ own, H0.length ≤ p.1 ∧ H[p.1]? = some p.2
  acc : S.Acc W H
theorem KInv.kb {own : List (Nat × Blk)} {H0 H : Heap} {nd : Node} {n i : Int} {inn : List Bool} {V : Int → Prop} {ed : Edges} (h : KInv S own H0 nd n inn V i H ed) : KB S own H0 nd inn (fun m => (V m ∨ m = n) ∨ ∃ j : Int, 0 ≤ j ∧ j < i ∧ Sub f.Nodes (nth nd.Kids j) m) H ed := ⟨h.fr, h.bx, h.nx, h.ow, h.acc⟩
theorem KB.sets {own : List (Nat × Blk)} {H0 H : Heap} {nd : Node} {inn : List Bool} {W W' : Int → Prop} {ed : Edges} (h : KB S own H0 nd inn W H ed) (e : ∀ m, W m ↔ W' m) : KB S own H0 nd inn W' H ed := by
  have : W = W' := funext fun m => propext (e m)
  subst this; exact h
theorem KB.sc {own : List (Nat × Blk)} {H0 H : Heap} {nd : Node} {inn : List Bool} {W : Int → Prop} {ed : Edges} (h : KB S own H0 nd inn W H ed) (hb : base ≤ H0.length) (hs : H0[sid]? = some (.cells 9 [scell f iid (.fn g caps)])) : H[sid]? = some (.cells 9 [scell f iid (.fn g caps)]) := by
  rw [h.fr.same sid (by have := S.s1; omega) (Ne.symm S.cs) (Ne.symm S.is), hs]
theorem KB.walk {own : List (Nat × Blk)} {H0 H : Heap} {nd : Node} {inn : List Bool} {W : Int → Prop} {ed : Edges} (h : KB S own H0 nd inn W H ed) (hb : base ≤ H0.length) (hP : S.Pre H0) (hs : H0[sid]? = some (.cells 9 [scell f iid (.fn g caps)])) {k : Int} {lp : Bool} (hw : WalkOk S k) (hc : Ctx f k lp inn) :
    ∃ H' ed', ES A n_zSw [.ptr sid 0 0 1, .int .i64 k, .bool lp] H = some (.tup [], H', ed') ∧ KB S own H0 nd inn (fun m => W m ∨ Sub f.Nodes k m) H' (ed' ++ ed) := by
  have hl := h.fr.len
  have c1 := S.c1
  obtain ⟨H', ed', he, hA, hS⟩ := hw lp inn W H hc (by omega) (S.pre H0 H hP (fun id h1 h2 h3 => h.fr.same id (by omega) h2 h3)) (h.sc S hb hs) h.fr.inn h.acc
  have hb1 := some_lt h.bx
  have hb2 := some_lt h.nx
  exact ⟨H', ed', he, h.fr.step S hS hb, by rw [hS.same _ hb1 (by omega), h.bx], by rw [hS.same _ hb2 (by omega), h.nx], fun p hp => by
    obtain ⟨o1, o2⟩ := h.ow p hp
    exact ⟨o1, by rw [hS.same _ (some_lt o2) (by omega), o2]⟩, hA⟩
theorem KB.setin {own : List (Nat × Blk)} {H0 H : Heap} {nd : Node} {inn : List Bool} {W : Int → Prop} {ed : Edges} (h : KB S own H0 nd inn W H ed) (hb : base ≤ H0.length) (inn' : List Bool) : KB S own H0 nd inn' W (H.set iid (.cells 1 (bl inn'))) ed := by
  have i1 := S.i1
  have hl := h.fr.len
  have hne : ∀ id, id ≠ iid → (H.set iid (.cells 1 (bl inn')))[id]? = H[id]? := fun id hid => List.getElem?_set_ne (Ne.symm hid)
  refine ⟨⟨by simpa using hl, fun id h1 h2 h3 => by rw [hne id h3]; exact h.fr.same id h1 h2 h3, List.getElem?_set_self (by omega), fun b r hb2 hr => ?_, fun e he => by rw [List.length_set]; exact h.fr.bd e he⟩, by rw [hne _ (by omega)]; exact h.bx, by rw [hne _ (by omega)]; exact h.nx, fun p hp => ?_, ?_⟩
  · rw [hne cid S.ci] at hb2; exact h.fr.fw b r hb2 hr
  · obtain ⟨o1, o2⟩ := h.ow p hp
    exact ⟨o1, by rw [hne _ (by omega)]; exact o2⟩
  · refine S.stable W H _ h.acc (hne cid S.ci) fun b r hb2 hr => ?_
    obtain ⟨es, h3⟩ := S.maps W H h.acc b r hb2 hr
    refine hne r fun e => ?_
    rw [e, h.fr.inn] at h3; cases h3
theorem Pro.kb {H0 H1 : Heap} {e1 : Edges} {n : Int} {lp : Bool} {inn : List Bool} {V : Int → Prop} (p : Pro S H0 H1 e1 n lp inn V) : KB S [(H1.length, .cells 1 (bl inn)), (H1.length + 1, .cells 1 [[.sl H1.length 0 f.Vars.length f.Vars.length]])] H0 (nth f.Nodes n) inn (fun m => V m ∨ m = n) (H1 ++ [.cells 1 (bl inn), .cells 1 [[.sl H1.length 0 f.Vars.length f.Vars.length]]]) e1 :=
  (p.kinv.kb S).sets S fun m => ⟨fun h => h.elim id (fun ⟨j, j0, j1, _⟩ => by omega), .inl⟩
theorem KB.set_true {own : List (Nat × Blk)} {H0 H : Heap} {nd : Node} {inn : List Bool} {W : Int → Prop} {ed : Edges} (h : KB S own H0 nd inn W H ed) (hb : base ≤ H0.length) (hs : H0[sid]? = some (.cells 9 [scell f iid (.fn g caps)])) (hl : inn.length = f.Vars.length) (hv : f.Vars.length ≤ 1048576) (hr : nd.Refs.length ≤ 1048576) (m1 : Nat) :
    ES A n_zSw_S1 [.bool true, .ptr H0.length 0 0 1, .ptr m1 0 0 1, .ptr (H0.length + 1) 0 0 1] H = some (.tup [], H.set iid (.cells 1 (bl (addRefs f.Vars.length nd.Refs inn))), []) := by
  have i1 := S.i1
  exact es_set_true f sid iid H0.length m1 (H0.length + 1) (.fn g caps) nd H inn hv hl (h.sc S hb hs) h.fr.inn h.bx (Ne.symm S.is) (by omega) hr h.nx (by omega)
theorem KB.set_false {own : List (Nat × Blk)} {H0 H : Heap} {nd : Node} {inn old : List Bool} {W : Int → Prop} {ed : Edges} (h : KB S own H0 nd inn W H ed) (hb : base ≤ H0.length) (hs : H0[sid]? = some (.cells 9 [scell f iid (.fn g caps)])) (hl : inn.length = f.Vars.length) (hv : f.Vars.length ≤ 1048576) (ho : old.length = f.Vars.length) (oid : Nat) (h1 : (oid, Blk.cells 1 (bl old)) ∈ own) (h2 : (oid + 1, Blk.cells 1 [[.sl oid 0 f.Vars.length f.Vars.length]]) ∈ own) :
    ES A n_zSw_S1 [.bool false, .ptr H0.length 0 0 1, .ptr (oid + 1) 0 0 1, .ptr (H0.length + 1) 0 0 1] H = some (.tup [], H.set iid (.cells 1 (bl old)), []) := by
  have i1 := S.i1
  exact es_set_false f sid iid H0.length (oid + 1) (H0.length + 1) (.fn g caps) H inn hv hl (h.sc S hb hs) h.fr.inn h.bx (Ne.symm S.is) (by omega) oid old (h.ow _ h2).2 (h.ow _ h1).2 ho
theorem walk_try (hf : FnT f) (hb0 : f.Vars.length ≤ 1048576) (n : Int) (n0 : 0 ≤ n) (n1 : n < f.Nodes.length) (hK : (nth f.Nodes n).Kind = 12) (hk2 : (nth f.Nodes n).Kids.length = 2)
    (hw : ∀ j : Int, 0 ≤ j → j < (nth f.Nodes n).Kids.length → WalkOk S (nth (nth f.Nodes n).Kids j)) : WalkOk S n := by
  intro lp inn V H0 hc hb hP hs hi hA
  obtain ⟨H1, e1, p⟩ := walk_pro S n n0 n1 lp inn V H0 hc hb hP hs hi hA
  have k0 := p.kb
  have hrl := (hf.hg.hsz n).1
  obtain ⟨H3, e3, w0, k1⟩ := k0.walk S hb hP hs (hw 0 (by omega) (by omega)) (hc.same hf n0 n1 (Int.le_refl 0) (by omega) (by omega) (fun _ => by omega))
  have t1 := k1.set_true S hb hs hc.len hb0 hrl (H1.length + 1)
  have k2 := k1.setin S hb (addRefs f.Vars.length (nth f.Nodes n).Refs inn)
  have hc1 := hc.last hf n0 n1 (j := 1) (by omega) (by omega) (.inr (.inr hK))
  rw [if_pos hK] at hc1
  obtain ⟨H5, e5, w1, k3⟩ := k2.walk S hb hP hs (hw 1 (by omega) (by omega)) hc1
  have t2 := k3.set_false S hb hs hc1.len hb0 hc.len H1.length (by simp) (by simp)
  have k4 := k3.setin S hb inn
  have hfin := k4.fr.fin S hi hA k4.acc hb []
  refine ⟨_, _, ?_, ?_, hfin.1⟩
  · have s0 := p.s0
    have q0 := p.q0
    have q1 := p.q1
    have q3 := p.q3
    have he := p.he
    simp only [scell, strs, ups, nodes] at s0 q1 q0
    simp only [Node.cells, ints, hK] at q3 he
    have hlb : (bl inn).length * 1 ≤ 35184372088832 := by have := hc.len; simp; omega
    have ha := appendTo_nils H1 1 1 (bl inn) hlb
    have hl := hc.len
    have b3 := k1.bx
    have x3 := k1.nx
    have x2 := k2.nx
    have b2 := k2.bx
    have x5 := k3.nx
    simp only [Node.cells, ints, hK] at x3 x2 x5
    simp -implicitDefEqProofs +contextual (disch := omega) only [s_zSw, u_zSw, rr_zSw, scell, strs, ups, nodes, Node.cells, ints, ↓e_append, appK_some, ↓XD, XU, ↓reduceIte, sevalprocAttr, s0, he, q0, p.q00, q1, p.q2, q3, p.r1, p.r2, ha, hl, hK, p.nl, w0, t1, w1, t2, hk2, b3, x3, b2, x2, x5]
  · refine cast (congrArg (fun P => S.Acc P _) (funext fun m => propext ?_)) hfin.2
    rw [sub_iff f.Nodes n m]
    constructor
    · rintro (((h | h) | h) | h)
      · exact .inl h
      · exact .inr (.inl h)
      · exact .inr (.inr ⟨0, by omega, by omega, h⟩)
      · exact .inr (.inr ⟨1, by omega, by omega, h⟩)
    · rintro (h | h | ⟨j, j0, j1, h⟩)
      · exact .inl (.inl (.inl h))
      · exact .inl (.inl (.inr h))
      · have : j = 0 ∨ j = 1 := by omega
        rcases this with rfl | rfl
        · exact .inl (.inr h)
        · exact .inr h
end
end
section
def slK (H : Heap) (sz : Nat) (x h : PV) : Option (PV × Heap × Edges) := match x, some (0 : Int) with
    | .fz rows, some l => match (match h with | .int _ n => some n | _ => none) with
      | some h => match decide (0 ≤ l) && decide (l ≤ h) && decide (h ≤ rows.length) && rows.all (fun r => r.length == sz) with
        | true => some (.fz ((rows.drop l.toNat).take (h.toNat - l.toNat)), H, [])
        | false => none
      | none => none
    | .sl id off len tot, some l => match (match h with | .int _ n => some n | _ => none) with
      | some h => match decide (0 ≤ l) && decide (l ≤ h) && decide (h ≤ len) && sizeIs H sz (.sl id off len tot) with
        | true => some (.sl id (off + l.toNat) (h.toNat - l.toNat) tot, H, [])
        | false => none
      | none => none
    | _, _ => none
theorem e_slice0 {P : AProg} (sz : Nat) (x h : Opd) (st : St) : evOp P.glob (CL P) st (.slice sz x none (some h)) = slK st.H sz (x.get P.glob st) (h.get P.glob st) := rfl
theorem slK_ints (H : Heap) (l : List Int) (k : IntKind) (n : Int) (h0 : 0 ≤ n) (h1 : n ≤ l.length) : slK H 1 (.fz (l.map fun k => [.int .i64 k])) (.int k n) = some (.fz ((l.take n.toNat).map fun k => [.int .i64 k]), H, []) := by
  have e : ((l.map fun k => [PV.int .i64 k]).all fun r => r.length == 1) = true := by simp
  have c : (decide ((0 : Int) ≤ 0) && decide (0 ≤ n) && decide (n ≤ (l.map fun k => [PV.int .i64 k]).length) && (l.map fun k => [PV.int .i64 k]).all (fun r => r.length == 1)) = true := by
    rw [e]; simp; omega
  show (match (decide ((0 : Int) ≤ 0) && decide (0 ≤ n) && decide (n ≤ (l.map fun k => [PV.int .i64 k]).length) && (l.map fun k => [PV.int .i64 k]).all (fun r => r.length == 1)) with | true => some (PV.fz (((l.map fun k => [PV.int .i64 k]).drop (0 : Int).toNat).take (n.toNat - (0 : Int).toNat)), H, ([] : Edges)) | false => none) = _
  rw [c]
  simp [List.map_take]
theorem nth_take {l : List Int} {m j : Int} (j0 : 0 ≤ j) (j1 : j < m) (m1 : m ≤ l.length) : nth (l.take m.toNat) j = nth l j := by
  have : j.toNat < m.toNat := by omega
  simp [nth, List.getD, List.getElem?_take, this]
section
variable {f : Fn} {sid iid cid base g : Nat} {caps : List PV} (S : See f sid iid cid base g caps)
theorem lw_heads (n : Int) (lp : Bool) (inn : List Bool) (V0 W : Int → Prop) (H0 : Heap) (hb : base ≤ H0.length) (hA0 : S.Acc V0 H0) (hP : S.Pre H0) (hs : H0[sid]? = some (.cells 9 [scell f iid (.fn g caps)])) (nd : Node) (ks : List Int) (hkl : ks.length ≤ 1048576)
    (v6 v7 v8 v47 v16 : PV) (hc : ∀ j : Int, 0 ≤ j → j < ks.length → Ctx f (nth ks j) lp inn) (hw : ∀ j : Int, 0 ≤ j → j < ks.length → WalkOk S (nth ks j))
    (own : List (Nat × Blk)) (H : Heap) (ed : Edges) (hK : KB S own H0 nd inn W H ed) :
    ∃ H' ed', EV A (.loop (B_zSw 3)) ⟨[(0, .ptr sid 0 0 1), (1, .int .i64 n), (2, .bool lp), (3, .ptr H0.length 0 0 1), (6, v6), (7, v7), (8, v8), (47, v47), (143, .bool true), (16, v16), (154, ints ks), (155, .int .i64 ks.length), (156, .int .i64 0)], [], H, ed⟩ = some (.exit 9, ⟨[(0, .ptr sid 0 0 1), (1, .int .i64 n), (2, .bool lp), (3, .ptr H0.length 0 0 1), (6, v6), (7, v7), (8, v8), (47, v47), (143, .bool true), (16, v16), (154, ints ks), (155, .int .i64 ks.length), (156, .int .i64 ks.length)], [], H', ed'⟩) ∧ KB S own H0 nd inn (fun m => W m ∨ ∃ j : Int, 0 ≤ j ∧ j < ks.length ∧ Sub f.Nodes (nth ks j) m) H' ed' := by
  obtain ⟨r, e, H', ed', rfl, h⟩ := loop_ind (P := A) (body := (B_zSw 3)) (fun a : Int × Heap × Edges => ⟨[(0, .ptr sid 0 0 1), (1, .int .i64 n), (2, .bool lp), (3, .ptr H0.length 0 0 1), (6, v6), (7, v7), (8, v8), (47, v47), (143, .bool true), (16, v16), (154, ints ks), (155, .int .i64 ks.length), (156, .int .i64 a.1)], [], a.2.1, a.2.2⟩)
    (fun a => 0 ≤ a.1 ∧ a.1 ≤ ks.length ∧ KB S own H0 nd inn (fun m => W m ∨ ∃ j : Int, 0 ≤ j ∧ j < a.1 ∧ Sub f.Nodes (nth ks j) m) a.2.1 a.2.2) (fun a => (ks.length - a.1).toNat)
    (fun a r => ∃ H' ed', r = (AExit.exit 9, (⟨[(0, .ptr sid 0 0 1), (1, .int .i64 n), (2, .bool lp), (3, .ptr H0.length 0 0 1), (6, v6), (7, v7), (8, v8), (47, v47), (143, .bool true), (16, v16), (154, ints ks), (155, .int .i64 ks.length), (156, .int .i64 ks.length)], [], H', ed'⟩ : St)) ∧ KB S own H0 nd inn (fun m => W m ∨ ∃ j : Int, 0 ≤ j ∧ j < ks.length ∧ Sub f.Nodes (nth ks j) m) H' ed') (by
    rintro ⟨i, H, ed⟩ ⟨i0, i1, hK⟩
    dsimp only at i0 i1 hK ⊢
    by_cases hn : i = ks.length
    · left
      subst hn
      exact ⟨_, by simp -implicitDefEqProofs +contextual (disch := omega) only [ub_zSw_3, rr_zSw, ints, ↓XD, XU, ↓reduceIte, sevalprocAttr, Int.lt_irrefl], by simp, H, ed, rfl, hK⟩
    · right
      have i2 : i < ks.length := by omega
      have hl := hK.fr.len
      have hbx := hK.bx
      have hlH := some_lt hK.bx
      have c1 := S.c1
      obtain ⟨H', ed', he, hA, hS⟩ := hw i i0 i2 lp inn _ H (hc i i0 i2) (by omega) (S.pre H0 H hP (fun id h1 h2 h3 => hK.fr.same id (by omega) h2 h3)) (hK.sc S hb hs) hK.fr.inn hK.acc
      have hF := hK.fr.step S hS hb
      have hF2 := Fr.cut S hF hA0 hA hb H.length hl hS.len
      refine ⟨(i + 1, trim H.length [.ptr sid 0 0 1, .int .i64 n, .bool lp, .ptr H0.length 0 0 1, v6, v7, v8, v47, .bool true, v16, ints ks, .int .i64 ks.length, .int .i64 (i + 1)] H' (ed' ++ ed)), _, ⟨by omega, by omega, ?_⟩, by dsimp only; omega, by (simp -implicitDefEqProofs +contextual (disch := omega) only [ub_zSw_3, rr_zSw, ints, ↓XD, XU, ↓reduceIte, sevalprocAttr, i2, hbx, he]) <;> rfl, ?_, ?_⟩
      · have hF2 := hF2 [.ptr sid 0 0 1, .int .i64 n, .bool lp, .ptr H0.length 0 0 1, v6, v7, v8, v47, .bool true, v16, ints ks, .int .i64 ks.length, .int .i64 (i + 1)]
        have hb1 := some_lt hK.bx
        have hb2 := some_lt hK.nx
        refine ⟨hF2.1, by rw [hF2.2.2.2 _ hb1, hS.same _ hb1 (by omega), hK.bx], by rw [hF2.2.2.2 _ hb2, hS.same _ hb2 (by omega), hK.nx], fun p hp => by
          obtain ⟨o1, o2⟩ := hK.ow p hp
          have o3 := some_lt o2
          exact ⟨o1, by rw [hF2.2.2.2 _ o3, hS.same _ o3 (by omega), o2]⟩, ?_⟩
        have := hF2.2.1
        refine cast (congrArg (fun P => S.Acc P _) (funext fun m => propext ?_)) this
        constructor
        · rintro (h | h)
          · rcases h with h | ⟨j, j0, j1, h⟩
            · exact .inl h
            · exact .inr ⟨j, j0, by omega, h⟩
          · exact .inr ⟨i, i0, by omega, h⟩
        · rintro (h | ⟨j, j0, j1, h⟩)
          · exact .inl (.inl h)
          · by_cases hj : j = i
            · subst hj; exact .inr h
            · exact .inl (.inr ⟨j, j0, by omega, h⟩)
      · simp [St.next, ints]
      · rintro r ⟨H', ed', rfl, h⟩; exact ⟨H', ed', rfl, h⟩) (0, H, ed) ⟨Int.le_refl _, by omega, hK.sets S fun m => ⟨.inl, fun h => h.elim id (fun ⟨j, j0, j1, _⟩ => by omega)⟩⟩
  exact ⟨H', ed', e, h⟩
end
end
section
section
variable {f : Fn} {sid iid cid base g : Nat} {caps : List PV} (S : See f sid iid cid base g caps)
theorem walk_7 (hf : FnT f) (hb0 : f.Vars.length ≤ 1048576) (n : Int) (n0 : 0 ≤ n) (n1 : n < f.Nodes.length) (hK : (nth f.Nodes n).Kind = 7) (hk1 : 1 ≤ (nth f.Nodes n).Kids.length)
    (hw : ∀ j : Int, 0 ≤ j → j < (nth f.Nodes n).Kids.length → WalkOk S (nth (nth f.Nodes n).Kids j)) : WalkOk S n := by
  intro lp inn V H0 hc hb hP hs hi hA
  obtain ⟨H1, e1, p⟩ := walk_pro S n n0 n1 lp inn V H0 hc hb hP hs hi hA
  have k0 := p.kb
  have hrl := (hf.hg.hsz n).1
  have hkl := (hf.hg.hsz n).2
  have hL : (((nth f.Nodes n).Kids.take (((nth f.Nodes n).Kids.length : Int) - 1).toNat).length : Int) = (nth f.Nodes n).Kids.length - 1 := by rw [List.length_take]; omega
  have hnt : ∀ j : Int, 0 ≤ j → j < ((nth f.Nodes n).Kids.take (((nth f.Nodes n).Kids.length : Int) - 1).toNat).length → nth ((nth f.Nodes n).Kids.take (((nth f.Nodes n).Kids.length : Int) - 1).toNat) j = nth (nth f.Nodes n).Kids j := fun j j0 j1 => nth_take j0 (by omega) (by omega)
  obtain ⟨H3, e3, el, k1⟩ := lw_heads S n lp inn V _ H0 hb hA hP hs (nth f.Nodes n) ((nth f.Nodes n).Kids.take (((nth f.Nodes n).Kids.length : Int) - 1).toNat) (by omega)
    (.ptr (H0.length + 1) 0 0 1) (.ptr (H1.length + 1) 0 0 1) (.fn n_zSw_S1 [.ptr H0.length 0 0 1, .ptr (H1.length + 1) 0 0 1, .ptr (H0.length + 1) 0 0 1]) (.int .i64 7) (.int .i64 (((nth f.Nodes n).Kids.length : Int) - 1))
    (fun j j0 j1 => by rw [hnt j j0 j1]; exact hc.same hf n0 n1 j0 (by omega) (by omega) (fun _ => by omega)) (fun j j0 j1 => by rw [hnt j j0 j1]; exact hw j j0 (by omega)) _ _ _ k0
  have t1 := k1.set_true S hb hs hc.len hb0 hrl (H1.length + 1)
  have k2 := k1.setin S hb (addRefs f.Vars.length (nth f.Nodes n).Refs inn)
  have hc1 := hc.last hf n0 n1 (j := ((nth f.Nodes n).Kids.length : Int) - 1) (by omega) rfl (by omega)
  rw [if_neg (by omega)] at hc1
  obtain ⟨H5, e5, w1, k3⟩ := k2.walk S hb hP hs (hw (((nth f.Nodes n).Kids.length : Int) - 1) (by omega) (by omega)) hc1
  have t2 := k3.set_false S hb hs hc1.len hb0 hc.len H1.length (by simp) (by simp)
  have k4 := k3.setin S hb inn
  have hfin := k4.fr.fin S hi hA k4.acc hb []
  refine ⟨_, _, ?_, ?_, hfin.1⟩
  · have s0 := p.s0
    have q0 := p.q0
    have q1 := p.q1
    have q3 := p.q3
    have he := p.he
    simp only [scell, strs, ups, nodes] at s0 q1 q0
    simp only [Node.cells, ints, hK] at q3 he
    have hlb : (bl inn).length * 1 ≤ 35184372088832 := by have := hc.len; simp; omega
    have ha := appendTo_nils H1 1 1 (bl inn) hlb
    have hl := hc.len
    have b3 := k1.bx
    have x3 := k1.nx
    have x2 := k2.nx
    have b2 := k2.bx
    have x5 := k3.nx
    simp only [Node.cells, ints, hK] at x3 x2 x5
    simp only [ints] at el
    simp -implicitDefEqProofs +contextual (disch := omega) only [s_zSw, u_zSw, rr_zSw, scell, strs, ups, nodes, Node.cells, ints, ↓e_append, ↓e_slice0, slK_ints, appK_some, ↓XD, XU, ↓reduceIte, sevalprocAttr, s0, he, q0, p.q00, q1, p.q2, q3, p.r1, p.r2, ha, hl, hK, p.nl, el, t1, w1, t2, b3, x3, b2, x2, x5]
  · refine cast (congrArg (fun P => S.Acc P _) (funext fun m => propext ?_)) hfin.2
    rw [sub_iff f.Nodes n m]
    constructor
    · rintro (((h | h) | ⟨j, j0, j1, h⟩) | h)
      · exact .inl h
      · exact .inr (.inl h)
      · exact .inr (.inr ⟨j, j0, by omega, by rw [hnt j j0 j1] at h; exact h⟩)
      · exact .inr (.inr ⟨_, by omega, by omega, h⟩)
    · rintro (h | h | ⟨j, j0, j1, h⟩)
      · exact .inl (.inl (.inl h))
      · exact .inl (.inl (.inr h))
      · by_cases hj : j = ((nth f.Nodes n).Kids.length : Int) - 1
        · subst hj; exact .inr h
        · exact .inl (.inr ⟨j, j0, by omega, by rw [hnt j j0 (by omega)]; exact h⟩)
theorem walk_8 (hf : FnT f) (hb0 : f.Vars.length ≤ 1048576) (n : Int) (n0 : 0 ≤ n) (n1 : n < f.Nodes.length) (hK : (nth f.Nodes n).Kind = 8) (hk1 : 1 ≤ (nth f.Nodes n).Kids.length)
    (hw : ∀ j : Int, 0 ≤ j → j < (nth f.Nodes n).Kids.length → WalkOk S (nth (nth f.Nodes n).Kids j)) : WalkOk S n := by
  intro lp inn V H0 hc hb hP hs hi hA
  obtain ⟨H1, e1, p⟩ := walk_pro S n n0 n1 lp inn V H0 hc hb hP hs hi hA
  have k0 := p.kb
  have hrl := (hf.hg.hsz n).1
  have hkl := (hf.hg.hsz n).2
  have hL : (((nth f.Nodes n).Kids.take (((nth f.Nodes n).Kids.length : Int) - 1).toNat).length : Int) = (nth f.Nodes n).Kids.length - 1 := by rw [List.length_take]; omega
  have hnt : ∀ j : Int, 0 ≤ j → j < ((nth f.Nodes n).Kids.take (((nth f.Nodes n).Kids.length : Int) - 1).toNat).length → nth ((nth f.Nodes n).Kids.take (((nth f.Nodes n).Kids.length : Int) - 1).toNat) j = nth (nth f.Nodes n).Kids j := fun j j0 j1 => nth_take j0 (by omega) (by omega)
  obtain ⟨H3, e3, el, k1⟩ := lw_heads S n lp inn V _ H0 hb hA hP hs (nth f.Nodes n) ((nth f.Nodes n).Kids.take (((nth f.Nodes n).Kids.length : Int) - 1).toNat) (by omega)
    (.ptr (H0.length + 1) 0 0 1) (.ptr (H1.length + 1) 0 0 1) (.fn n_zSw_S1 [.ptr H0.length 0 0 1, .ptr (H1.length + 1) 0 0 1, .ptr (H0.length + 1) 0 0 1]) (.int .i64 8) (.int .i64 (((nth f.Nodes n).Kids.length : Int) - 1))
    (fun j j0 j1 => by rw [hnt j j0 j1]; exact hc.same hf n0 n1 j0 (by omega) (by omega) (fun _ => by omega)) (fun j j0 j1 => by rw [hnt j j0 j1]; exact hw j j0 (by omega)) _ _ _ k0
  have t1 := k1.set_true S hb hs hc.len hb0 hrl (H1.length + 1)
  have k2 := k1.setin S hb (addRefs f.Vars.length (nth f.Nodes n).Refs inn)
  have hc1 := hc.last hf n0 n1 (j := ((nth f.Nodes n).Kids.length : Int) - 1) (by omega) rfl (by omega)
  rw [if_neg (by omega)] at hc1
  obtain ⟨H5, e5, w1, k3⟩ := k2.walk S hb hP hs (hw (((nth f.Nodes n).Kids.length : Int) - 1) (by omega) (by omega)) hc1
  have t2 := k3.set_false S hb hs hc1.len hb0 hc.len H1.length (by simp) (by simp)
  have k4 := k3.setin S hb inn
  have hfin := k4.fr.fin S hi hA k4.acc hb []
  refine ⟨_, _, ?_, ?_, hfin.1⟩
  · have s0 := p.s0
    have q0 := p.q0
    have q1 := p.q1
    have q3 := p.q3
    have he := p.he
    simp only [scell, strs, ups, nodes] at s0 q1 q0
    simp only [Node.cells, ints, hK] at q3 he
    have hlb : (bl inn).length * 1 ≤ 35184372088832 := by have := hc.len; simp; omega
    have ha := appendTo_nils H1 1 1 (bl inn) hlb
    have hl := hc.len
    have b3 := k1.bx
    have x3 := k1.nx
    have x2 := k2.nx
    have b2 := k2.bx
    have x5 := k3.nx
    simp only [Node.cells, ints, hK] at x3 x2 x5
    simp only [ints] at el
    simp -implicitDefEqProofs +contextual (disch := omega) only [s_zSw, u_zSw, rr_zSw, scell, strs, ups, nodes, Node.cells, ints, ↓e_append, ↓e_slice0, slK_ints, appK_some, ↓XD, XU, ↓reduceIte, sevalprocAttr, s0, he, q0, p.q00, q1, p.q2, q3, p.r1, p.r2, ha, hl, hK, p.nl, el, t1, w1, t2, b3, x3, b2, x2, x5]
  · refine cast (congrArg (fun P => S.Acc P _) (funext fun m => propext ?_)) hfin.2
    rw [sub_iff f.Nodes n m]
    constructor
    · rintro (((h | h) | ⟨j, j0, j1, h⟩) | h)
      · exact .inl h
      · exact .inr (.inl h)
      · exact .inr (.inr ⟨j, j0, by omega, by rw [hnt j j0 j1] at h; exact h⟩)
      · exact .inr (.inr ⟨_, by omega, by omega, h⟩)
    · rintro (h | h | ⟨j, j0, j1, h⟩)
      · exact .inl (.inl (.inl h))
      · exact .inl (.inl (.inr h))
      · by_cases hj : j = ((nth f.Nodes n).Kids.length : Int) - 1
        · subst hj; exact .inr h
        · exact .inl (.inr ⟨j, j0, by omega, by rw [hnt j j0 (by omega)]; exact h⟩)
theorem walk_6 (hf : FnT f) (hb0 : f.Vars.length ≤ 1048576) (n : Int) (n0 : 0 ≤ n) (n1 : n < f.Nodes.length) (hK : (nth f.Nodes n).Kind = 6) (hk1 : 1 ≤ (nth f.Nodes n).Kids.length)
    (hw : ∀ j : Int, 0 ≤ j → j < (nth f.Nodes n).Kids.length → WalkOk S (nth (nth f.Nodes n).Kids j)) : WalkOk S n := by
  intro lp inn V H0 hc hb hP hs hi hA
  obtain ⟨H1, e1, p⟩ := walk_pro S n n0 n1 lp inn V H0 hc hb hP hs hi hA
  have k0 := p.kb
  have hrl := (hf.hg.hsz n).1
  have hkl := (hf.hg.hsz n).2
  have hL : (((nth f.Nodes n).Kids.take (((nth f.Nodes n).Kids.length : Int) - 1).toNat).length : Int) = (nth f.Nodes n).Kids.length - 1 := by rw [List.length_take]; omega
  have hnt : ∀ j : Int, 0 ≤ j → j < ((nth f.Nodes n).Kids.take (((nth f.Nodes n).Kids.length : Int) - 1).toNat).length → nth ((nth f.Nodes n).Kids.take (((nth f.Nodes n).Kids.length : Int) - 1).toNat) j = nth (nth f.Nodes n).Kids j := fun j j0 j1 => nth_take j0 (by omega) (by omega)
  obtain ⟨H3, e3, el, k1⟩ := lw_heads S n lp inn V _ H0 hb hA hP hs (nth f.Nodes n) ((nth f.Nodes n).Kids.take (((nth f.Nodes n).Kids.length : Int) - 1).toNat) (by omega)
    (.ptr (H0.length + 1) 0 0 1) (.ptr (H1.length + 1) 0 0 1) (.fn n_zSw_S1 [.ptr H0.length 0 0 1, .ptr (H1.length + 1) 0 0 1, .ptr (H0.length + 1) 0 0 1]) (.int .i64 6) (.int .i64 (((nth f.Nodes n).Kids.length : Int) - 1))
    (fun j j0 j1 => by rw [hnt j j0 j1]; exact hc.same hf n0 n1 j0 (by omega) (by omega) (fun _ => by omega)) (fun j j0 j1 => by rw [hnt j j0 j1]; exact hw j j0 (by omega)) _ _ _ k0
  have k2 := k1
  have hc1 := hc.body hf n0 n1 (j := ((nth f.Nodes n).Kids.length : Int) - 1) (by omega) rfl hK
  obtain ⟨H5, e5, w1, k4⟩ := k2.walk S hb hP hs (hw (((nth f.Nodes n).Kids.length : Int) - 1) (by omega) (by omega)) hc1
  have k3 := k4
  have hfin := k4.fr.fin S hi hA k4.acc hb []
  refine ⟨_, _, ?_, ?_, hfin.1⟩
  · have s0 := p.s0
    have q0 := p.q0
    have q1 := p.q1
    have q3 := p.q3
    have he := p.he
    simp only [scell, strs, ups, nodes] at s0 q1 q0
    simp only [Node.cells, ints, hK] at q3 he
    have hlb : (bl inn).length * 1 ≤ 35184372088832 := by have := hc.len; simp; omega
    have ha := appendTo_nils H1 1 1 (bl inn) hlb
    have hl := hc.len
    have b3 := k1.bx
    have x3 := k1.nx
    have x2 := k2.nx
    have b2 := k2.bx
    have x5 := k3.nx
    simp only [Node.cells, ints, hK] at x3 x2 x5
    simp only [ints] at el
    simp -implicitDefEqProofs +contextual (disch := omega) only [s_zSw, u_zSw, rr_zSw, scell, strs, ups, nodes, Node.cells, ints, ↓e_append, ↓e_slice0, slK_ints, appK_some, ↓XD, XU, ↓reduceIte, sevalprocAttr, s0, he, q0, p.q00, q1, p.q2, q3, p.r1, p.r2, ha, hl, hK, p.nl, el, w1, b3, x3, b2, x2, x5]
  · refine cast (congrArg (fun P => S.Acc P _) (funext fun m => propext ?_)) hfin.2
    rw [sub_iff f.Nodes n m]
    constructor
    · rintro (((h | h) | ⟨j, j0, j1, h⟩) | h)
      · exact .inl h
      · exact .inr (.inl h)
      · exact .inr (.inr ⟨j, j0, by omega, by rw [hnt j j0 j1] at h; exact h⟩)
      · exact .inr (.inr ⟨_, by omega, by omega, h⟩)
    · rintro (h | h | ⟨j, j0, j1, h⟩)
      · exact .inl (.inl (.inl h))
      · exact .inl (.inl (.inr h))
      · by_cases hj : j = ((nth f.Nodes n).Kids.length : Int) - 1
        · subst hj; exact .inr h
        · exact .inl (.inr ⟨j, j0, by omega, by rw [hnt j j0 (by omega)]; exact h⟩)
end
end
section
theorem trim_keeps (k : Nat) (roots : List PV) (H : Heap) (ed : Edges) {id : Nat} (h : id < k ∨ id ∈ refsL roots) : (trim k roots H ed).1[id]? = H[id]? := by
  rw [trim]
  cases hb : bare k (refsL roots) && ed.all fun e => decide (k ≤ e.1) || decide (e.2 < k) with
  | false => rfl
  | true =>
    rw [Bool.and_eq_true] at hb
    have : id < k := by
      rcases h with h | h
      · exact h
      · have := List.all_eq_true.1 hb.1 id h; simpa using this
    show (H.take k)[id]? = _
    rw [List.getElem?_take, if_pos this]
def bs1 (x : PV) (H : Heap) : Option (PV × Heap × Edges) := match fillRows [[PV.int .i64 0]] [(0, cellsOf x)] with
    | some rows => some (.sl H.length 0 1 1, H ++ [.cells 1 rows], [])
    | none => none
theorem e_build1 {P : AProg} (x : Opd) (st : St) : evOp P.glob (CL P) st (.buildSlice 1 1 [.int .i64 0] [(0, x)]) = bs1 (x.get P.glob st) st.H := rfl
theorem bs1_int (v : Int) (H : Heap) : bs1 (.int .i64 v) H = some (.sl H.length 0 1 1, H ++ [.cells 1 [[.int .i64 v]]], []) := rfl
theorem rows1 (H : Heap) (v : Int) : rowsOf (H ++ [.cells 1 [[.int .i64 v]]]) (.sl H.length 0 1 1) = some [[.int .i64 v]] ∧ sizeIs (H ++ [.cells 1 [[.int .i64 v]]]) 1 (.sl H.length 0 1 1) = true := by
  constructor <;> simp [rowsOf, sizeIs]
theorem app_ints {H : Heap} {mid : Nat} {ms : List Int} (h : H[mid]? = some (.cells 1 (il ms))) (hl : ms.length ≤ 4000000000000) (v : Int) : appendTo H 1 8 (.sl mid 0 ms.length ms.length) [[.int .i64 v]] = some (.sl mid 0 (ms.length + 1) (ms.length + 1), H.set mid (.cells 1 (il (ms ++ [v]))), []) := by
  have e1 : (il ms).length = ms.length := by simp
  have c1 : (ms.length == (il ms).length && 1 == 1 && decide (0 + ms.length ≤ ms.length) && decide ((0 + ms.length + [[PV.int .i64 v]].length) * 8 ≤ 35184372088832)) = true := by simp; omega
  have c2 : decide (0 + ms.length + [[PV.int IntKind.i64 v]].length ≤ ms.length) = false := by simp
  simp only [appendTo, h, c1, c2]
  simp [edgesTo, refsL, refs]
  rw [List.take_of_length_le (by simp)]
section
variable {f : Fn} {sid iid cid base g : Nat} {caps : List PV} (S : See f sid iid cid base g caps)
theorem KB.app {H0 H : Heap} {nd : Node} {inn : List Bool} {W : Int → Prop} {ed : Edges} (h : KB S [] H0 nd inn W H ed) (hb : base ≤ H0.length) (l : Heap) : KB S [] H0 nd inn W (H ++ l) ed := by
  obtain ⟨h1, h2⟩ := h.fr.app S h.acc hb l []
  rw [List.nil_append] at h1
  exact ⟨h1, app_old _ _ h.bx, app_old _ _ h.nx, by simp, h2⟩
theorem KB.own {H0 H : Heap} {nd : Node} {inn : List Bool} {W : Int → Prop} {ed : Edges} (h : KB S [] H0 nd inn W H ed) (hb : base ≤ H0.length) {mid s : Nat} {r : List (List PV)} (hm : H0.length + 2 ≤ mid) (hc : H[mid]? = some (.cells s r)) (b : Blk) : KB S [] H0 nd inn W (H.set mid b) ed := by
  have i1 := S.i1
  have c1 := S.c1
  have hne : ∀ id, id ≠ mid → (H.set mid b)[id]? = H[id]? := fun id hid => List.getElem?_set_ne (Ne.symm hid)
  refine ⟨⟨by simpa using h.fr.len, fun id h1 h2 h3 => by rw [hne id (by omega)]; exact h.fr.same id h1 h2 h3, by rw [hne iid (by omega)]; exact h.fr.inn, fun b r hb2 hr => ?_, fun e he => by rw [List.length_set]; exact h.fr.bd e he⟩, by rw [hne _ (by omega)]; exact h.bx, by rw [hne _ (by omega)]; exact h.nx, by simp, ?_⟩
  · rw [hne cid (by omega)] at hb2; exact h.fr.fw b r hb2 hr
  · refine S.stable W H _ h.acc (hne cid (by omega)) fun b r hb2 hr => ?_
    obtain ⟨es, h3⟩ := S.maps W H h.acc b r hb2 hr
    refine hne r fun e => ?_
    rw [e, hc] at h3; cases h3
theorem KB.cut {H0 H : Heap} {nd : Node} {inn : List Bool} {V0 W : Int → Prop} {ed : Edges} (h : KB S [] H0 nd inn W H ed) (hA0 : S.Acc V0 H0) (hb : base ≤ H0.length) (k : Nat) (hk : H0.length + 2 ≤ k) (hkH : k ≤ H.length) (roots : List PV) : KB S [] H0 nd inn W (trim k roots H ed).1 (trim k roots H ed).2 := by
  obtain ⟨h1, h2, _, h4⟩ := h.fr.cut S hA0 h.acc hb k (by omega) hkH roots
  exact ⟨h1, by rw [h4 _ (by omega)]; exact h.bx, by rw [h4 _ (by omega)]; exact h.nx, by simp, h2⟩
def Mine (H0 : Heap) (M : PV) (ms : List Int) (H : Heap) : Prop := (M = .nils ∧ ms = []) ∨ ∃ mid, M = .sl mid 0 ms.length ms.length ∧ H0.length + 2 ≤ mid ∧ H[mid]? = some (.cells 1 (il ms))
theorem Mine.keep {H0 H H' : Heap} {M : PV} {ms : List Int} (h : Mine H0 M ms H) (hk : ∀ mid, mid ∈ refs M → H'[mid]? = H[mid]?) : Mine H0 M ms H' := by
  rcases h with h | ⟨mid, rfl, h1, h2⟩
  · exact .inl h
  · exact .inr ⟨mid, rfl, h1, by rw [hk mid (by simp [refs])]; exact h2⟩
theorem Mine.lt {H0 H : Heap} {M : PV} {ms : List Int} (h : Mine H0 M ms H) {mid : Nat} (hm : mid ∈ refs M) : H0.length + 2 ≤ mid ∧ mid < H.length := by
  rcases h with ⟨rfl, _⟩ | ⟨m, rfl, h1, h2⟩
  · simp [refs] at hm
  · simp only [refs, List.mem_singleton] at hm; subst hm; exact ⟨h1, some_lt h2⟩
end
end
end Go.Proofs.Try.Av
end
section
attribute [local congr] ite_congr
set_option maxRecDepth 10000
set_option maxHeartbeats 1000000
namespace Go.Proofs.Try.Av
open Go Go.Av Classical
section
structure MR (L : Nat) (inn : List Bool) (ms : List Int) (a : List Bool) : Prop where
  len : a.length = L
  is : ∀ v : Int, 0 ≤ v → v < L → (nth a v = true ↔ nth inn v = true ∨ v ∈ ms)
  new : ∀ v ∈ ms, 0 ≤ v ∧ v < L ∧ ¬nth inn v = true
  nodup : ms.Nodup
theorem MR.add {L : Nat} {inn : List Bool} {ms : List Int} {a : List Bool} (h : MR L inn ms a) {v : Int} (v0 : 0 ≤ v) (v1 : v < L) (hv : ¬nth a v = true) : MR L inn (ms ++ [v]) (a.set v.toNat true) := by
  refine ⟨by simpa using h.len, fun w w0 w1 => ?_, fun w hw => ?_, List.nodup_append.2 ⟨h.nodup, by simp, fun x hx y hy e => ?_⟩⟩
  · rw [nth_set v0 (by rw [h.len]; exact v1) w0, List.mem_append, List.mem_singleton, ← or_assoc, ← h.is w w0 w1]
    by_cases e : v = w
    · rw [if_pos e]; simp [e]
    · rw [if_neg e]; exact ⟨.inl, fun h => h.resolve_right (fun h => e h.symm)⟩
  · rw [List.mem_append, List.mem_singleton] at hw
    rcases hw with hw | rfl
    · exact h.new w hw
    · exact ⟨v0, v1, fun hi => hv ((h.is _ v0 v1).2 (.inl hi))⟩
  · rw [List.mem_singleton] at hy
    subst hy; subst e
    exact hv ((h.is _ v0 v1).2 (.inr hx))
theorem trim_len (k : Nat) (roots : List PV) (H : Heap) (ed : Edges) (h : k ≤ H.length) : k ≤ (trim k roots H ed).1.length := by
  rcases trim_cases k roots H ed with e | ⟨e, _⟩
  · rw [e]; exact h
  · rw [e]; show k ≤ (H.take k).length; rw [List.length_take]; omega
section
variable {f : Fn} {sid iid cid base g : Nat} {caps : List PV} (S : See f sid iid cid base g caps)
theorem bd_b1 (n k i : Int) (lp : Bool) (inn a : List Bool) (W V0 : Int → Prop) (H0 : Heap) (hA0 : S.Acc V0 H0) (hb : base ≤ H0.length) (hs : H0[sid]? = some (.cells 9 [scell f iid (.fn g caps)])) (nd : Node) (ks rs : List Int) (v6 v7 v8 v47 : PV) (hrl : rs.length ≤ 1048576) (hv : f.Vars.length ≤ 1048576)
    (j : Int) (j0 : 0 ≤ j) (j1 : j < rs.length) (ms : List Int) (M : PV) (H : Heap) (ed : Edges) (hK : KB S [] H0 nd a W H ed) (hM : Mine H0 M ms H) (hR : MR f.Vars.length inn ms a) (hml : ms.length ≤ 3000000000000) :
    ∃ a' ms' M' H', EV A (B_zSw 1) ⟨[(0, .ptr sid 0 0 1), (1, .int .i64 n), (2, .bool lp), (3, .ptr H0.length 0 0 1), (6, v6), (7, v7), (8, v8), (47, v47), (9, M), (63, ints ks), (64, .int .i64 ks.length), (65, .int .i64 i), (11, .int .i64 k), (91, ints rs), (92, .int .i64 rs.length), (93, .int .i64 j)], [], H, ed⟩ = some (.normal, ⟨[(0, .ptr sid 0 0 1), (1, .int .i64 n), (2, .bool lp), (3, .ptr H0.length 0 0 1), (6, v6), (7, v7), (8, v8), (47, v47), (9, M'), (63, ints ks), (64, .int .i64 ks.length), (65, .int .i64 i), (11, .int .i64 k), (91, ints rs), (92, .int .i64 rs.length), (93, .int .i64 (j + 1)), (13, .int .i64 (nth rs j))], [], H', ed⟩) ∧ H.length ≤ H'.length ∧ KB S [] H0 nd a' W H' ed ∧ Mine H0 M' ms' H' ∧ MR f.Vars.length inn ms' a' ∧ (ms'.length : Int) ≤ ms.length + 1 ∧ (∀ v : Int, 0 ≤ v → v < f.Vars.length → (nth a' v = true ↔ nth a v = true ∨ v = nth rs j)) := by
  have i1 := S.i1
  have s1 := S.s1
  have hsc := hK.sc S hb hs
  have hin := hK.fr.inn
  have hbx := hK.bx
  have hal := hR.len
  have hlH := some_lt hK.nx
  have hHl := hK.fr.len
  simp only [scell, strs, ups, nodes] at hsc
  by_cases c : (0 ≤ nth rs j ∧ nth rs j < f.Vars.length) ∧ ¬nth a (nth rs j) = true
  · have hK1 := hK.setin S hb (a.set (nth rs j).toNat true)
    have hR' := hR.add c.1.1 c.1.2 c.2
    have hsc1 : ∀ b, (H.set iid b)[sid]? = H[sid]? := fun b => List.getElem?_set_ne S.is
    have hbx1 : ∀ b, (H.set iid b)[H0.length]? = H[H0.length]? := fun b => List.getElem?_set_ne (by omega)
    have hrel : ∀ v : Int, 0 ≤ v → v < f.Vars.length → (nth (a.set (nth rs j).toNat true) v = true ↔ nth a v = true ∨ v = nth rs j) := fun v v0 v1 => by
      rw [nth_set c.1.1 (by rw [hal]; exact c.1.2) v0]
      by_cases e : nth rs j = v
      · rw [if_pos e]; simp [e]
      · rw [if_neg e]; exact ⟨.inl, fun h => h.resolve_right (fun h => e h.symm)⟩
    have hr1 := rows1 (H.set iid (.cells 1 (bl (a.set (nth rs j).toNat true)))) (nth rs j)
    rw [List.length_set] at hr1
    rcases hM with ⟨rfl, rfl⟩ | ⟨mid, rfl, hm1, hm2⟩
    · have hap := appendTo_nils (H.set iid (.cells 1 (bl (a.set (nth rs j).toNat true))) ++ [.cells 1 [[.int .i64 (nth rs j)]]]) 1 8 [[.int .i64 (nth rs j)]] (by simp)
      have hK2 := (hK1.app S hb [.cells 1 [[.int .i64 (nth rs j)]]]).app S hb [.cells 1 [[.int .i64 (nth rs j)]]]
      refine ⟨_, _, .sl (H.length + 1) 0 1 1, _, ?_, ?_, hK2, .inr ⟨H.length + 1, by simp, by omega, ?_⟩, hR', by simp, hrel⟩
      · simp -implicitDefEqProofs +contextual (disch := omega) only [ub_zSw_1, rr_zSw, ints, ↓e_append, ↓e_build1, bs1_int, appK_some, ↓XD, XU, ↓reduceIte, sevalprocAttr, j1, c.1.1, c.1.2, c.2, c, hsc, hsc1, hbx, hbx1, hin, hal, hr1.1, hr1.2, hap]
      · simp
      · rw [List.getElem?_append_right (by simp)]; simp
    · have hap := app_ints (H := H.set iid (.cells 1 (bl (a.set (nth rs j).toNat true))) ++ [.cells 1 [[.int .i64 (nth rs j)]]]) (mid := mid) (ms := ms) (app_old _ _ (by rw [List.getElem?_set_ne (by omega)]; exact hm2)) (by omega) (nth rs j)
      have hK2 := (hK1.app S hb [.cells 1 [[.int .i64 (nth rs j)]]]).own S hb hm1 (app_old _ _ (by rw [List.getElem?_set_ne (by omega)]; exact hm2)) (.cells 1 (il (ms ++ [nth rs j])))
      have hmH := some_lt hm2
      refine ⟨_, _, .sl mid 0 (ms.length + 1) (ms.length + 1), _, ?_, ?_, hK2, .inr ⟨mid, by simp, hm1, ?_⟩, hR', by simp, hrel⟩
      · simp -implicitDefEqProofs +contextual (disch := omega) only [ub_zSw_1, rr_zSw, ints, ↓e_append, ↓e_build1, bs1_int, appK_some, ↓XD, XU, ↓reduceIte, sevalprocAttr, j1, c.1.1, c.1.2, c.2, c, hsc, hsc1, hbx, hbx1, hin, hal, hr1.1, hr1.2, hap]
      · simp
      · rw [List.getElem?_set_self (by simp; omega)]
  · refine ⟨a, ms, M, H, ?_, Nat.le_refl _, hK, hM, hR, by omega, fun v v0 v1 => ⟨.inl, fun h => h.elim id (fun h => ?_)⟩⟩
    · simp -implicitDefEqProofs +contextual (disch := omega) only [ub_zSw_1, rr_zSw, ints, ↓XD, XU, ↓reduceIte, sevalprocAttr, j1, c, hsc, hbx, hin, hal]
    · subst h
      exact Classical.byContradiction fun hc => c ⟨⟨v0, v1⟩, hc⟩
theorem lw_b1 (n k i : Int) (lp : Bool) (inn a0 : List Bool) (W V0 : Int → Prop) (H0 : Heap) (hA0 : S.Acc V0 H0) (hb : base ≤ H0.length) (hs : H0[sid]? = some (.cells 9 [scell f iid (.fn g caps)])) (nd : Node) (ks rs : List Int) (v6 v7 v8 v47 : PV) (hrl : rs.length ≤ 1048576) (hv : f.Vars.length ≤ 1048576)
    (ms0 : List Int) (M0 : PV) (H1 : Heap) (ed1 : Edges) (hK : KB S [] H0 nd a0 W H1 ed1) (hM : Mine H0 M0 ms0 H1) (hR : MR f.Vars.length inn ms0 a0) (hml : ms0.length ≤ 2000000000000) :
    ∃ a' ms' M' H' ed', EV A (.loop (B_zSw 1)) ⟨[(0, .ptr sid 0 0 1), (1, .int .i64 n), (2, .bool lp), (3, .ptr H0.length 0 0 1), (6, v6), (7, v7), (8, v8), (47, v47), (9, M0), (63, ints ks), (64, .int .i64 ks.length), (65, .int .i64 i), (11, .int .i64 k), (91, ints rs), (92, .int .i64 rs.length), (93, .int .i64 0)], [], H1, ed1⟩ = some (.exit 5, ⟨[(0, .ptr sid 0 0 1), (1, .int .i64 n), (2, .bool lp), (3, .ptr H0.length 0 0 1), (6, v6), (7, v7), (8, v8), (47, v47), (9, M'), (63, ints ks), (64, .int .i64 ks.length), (65, .int .i64 i), (11, .int .i64 k), (91, ints rs), (92, .int .i64 rs.length), (93, .int .i64 rs.length)], [], H', ed'⟩) ∧ H1.length ≤ H'.length ∧ KB S [] H0 nd a' W H' ed' ∧ Mine H0 M' ms' H' ∧ MR f.Vars.length inn ms' a' ∧ (ms'.length : Int) ≤ ms0.length + rs.length ∧ (∀ v : Int, 0 ≤ v → v < f.Vars.length → (nth a' v = true ↔ nth a0 v = true ∨ v ∈ rs)) := by
  obtain ⟨r, e, a', ms', M', H', ed', rfl, h⟩ := loop_ind (P := A) (body := (B_zSw 1)) (fun x : Int × PV × Heap × Edges => ⟨[(0, .ptr sid 0 0 1), (1, .int .i64 n), (2, .bool lp), (3, .ptr H0.length 0 0 1), (6, v6), (7, v7), (8, v8), (47, v47), (9, x.2.1), (63, ints ks), (64, .int .i64 ks.length), (65, .int .i64 i), (11, .int .i64 k), (91, ints rs), (92, .int .i64 rs.length), (93, .int .i64 x.1)], [], x.2.2.1, x.2.2.2⟩)
    (fun x => 0 ≤ x.1 ∧ x.1 ≤ rs.length ∧ H1.length ≤ x.2.2.1.length ∧ ∃ a ms, KB S [] H0 nd a W x.2.2.1 x.2.2.2 ∧ Mine H0 x.2.1 ms x.2.2.1 ∧ MR f.Vars.length inn ms a ∧ (ms.length : Int) ≤ ms0.length + x.1 ∧ ∀ v : Int, 0 ≤ v → v < f.Vars.length → (nth a v = true ↔ nth a0 v = true ∨ v ∈ rs.take x.1.toNat)) (fun x => (rs.length - x.1).toNat)
    (fun x r => ∃ a' ms' M' H' ed', r = (AExit.exit 5, (⟨[(0, .ptr sid 0 0 1), (1, .int .i64 n), (2, .bool lp), (3, .ptr H0.length 0 0 1), (6, v6), (7, v7), (8, v8), (47, v47), (9, M'), (63, ints ks), (64, .int .i64 ks.length), (65, .int .i64 i), (11, .int .i64 k), (91, ints rs), (92, .int .i64 rs.length), (93, .int .i64 rs.length)], [], H', ed'⟩ : St)) ∧ H1.length ≤ H'.length ∧ KB S [] H0 nd a' W H' ed' ∧ Mine H0 M' ms' H' ∧ MR f.Vars.length inn ms' a' ∧ (ms'.length : Int) ≤ ms0.length + rs.length ∧ (∀ v : Int, 0 ≤ v → v < f.Vars.length → (nth a' v = true ↔ nth a0 v = true ∨ v ∈ rs))) (by
    rintro ⟨j, M, H, ed⟩ ⟨j0, j1, hLL, a, ms, hK, hM, hR, hl, hx⟩
    dsimp only at j0 j1 hLL hK hM hl hx ⊢
    by_cases hn : j = rs.length
    · left
      subst hn
      refine ⟨_, by simp -implicitDefEqProofs +contextual (disch := omega) only [ub_zSw_1, rr_zSw, ints, ↓XD, XU, ↓reduceIte, sevalprocAttr, Int.lt_irrefl], by simp, a, ms, M, H, ed, rfl, hLL, hK, hM, hR, hl, ?_⟩
      intro v v0 v1
      rw [hx v v0 v1, show rs.take (rs.length : Int).toNat = rs by simp]
    · right
      obtain ⟨a', ms', M', H', e, hL, hK', hM', hR', hl', hx'⟩ := bd_b1 S n k i lp inn a W V0 H0 hA0 hb hs nd ks rs v6 v7 v8 v47 hrl hv j j0 (by omega) ms M H ed hK hM hR (by omega)
      have hlH := some_lt hK.nx
      have hcut := hK'.cut S hA0 hb H.length (by omega) hL [.ptr sid 0 0 1, .int .i64 n, .bool lp, .ptr H0.length 0 0 1, v6, v7, v8, v47, M', ints ks, .int .i64 ks.length, .int .i64 i, .int .i64 k, ints rs, .int .i64 rs.length, .int .i64 (j + 1)]
      refine ⟨(j + 1, M', trim H.length [.ptr sid 0 0 1, .int .i64 n, .bool lp, .ptr H0.length 0 0 1, v6, v7, v8, v47, M', ints ks, .int .i64 ks.length, .int .i64 i, .int .i64 k, ints rs, .int .i64 rs.length, .int .i64 (j + 1)] H' ed), _, ⟨by dsimp only; omega, by dsimp only; omega, Nat.le_trans hLL (trim_len _ _ _ _ hL), a', ms', hcut, hM'.keep fun mid hm => trim_keeps _ _ _ _ (.inr ?_), hR', by dsimp only; omega, fun v v0 v1 => ?_⟩, by dsimp only; omega, e, by simp [St.next, ints], ?_⟩
      · simp [refsL, refs, hm]
      · dsimp only
        rw [hx' v v0 v1, hx v v0 v1, take_one_more j0 (by omega), List.mem_append, List.mem_singleton, or_assoc]
      · rintro r ⟨a', ms', M', H', ed', rfl, h⟩; exact ⟨a', ms', M', H', ed', rfl, h⟩) (0, M0, H1, ed1) ⟨Int.le_refl _, by dsimp only; omega, Nat.le_refl _, a0, ms0, hK, hM, hR, by dsimp only; omega, fun v v0 v1 => by simp⟩
  exact ⟨a', ms', M', H', ed', e, h⟩
end
end
section
section
variable {f : Fn} {sid iid cid base g : Nat} {caps : List PV} (S : See f sid iid cid base g caps)
def LetSeen (f : Fn) (n i v : Int) : Prop := ∃ j : Int, 0 ≤ j ∧ j < i ∧ (nth f.Nodes (nth (nth f.Nodes n).Kids j)).Kind = 2 ∧ v ∈ (nth f.Nodes (nth (nth f.Nodes n).Kids j)).Refs
structure BInv (n : Int) (inn : List Bool) (V : Int → Prop) (H0 : Heap) (nd : Node) (i : Int) (M : PV) (H : Heap) (ed : Edges) (a : List Bool) (ms : List Int) : Prop where
  kb : KB S [] H0 nd a (fun m => (V m ∨ m = n) ∨ ∃ j : Int, 0 ≤ j ∧ j < i ∧ Sub f.Nodes (nth (nth f.Nodes n).Kids j) m) H ed
  mi : Mine H0 M ms H
  mr : MR f.Vars.length inn ms a
  ml : (ms.length : Int) ≤ i * 1048576
  see : ∀ v : Int, 0 ≤ v → v < f.Vars.length → (nth a v = true ↔ nth inn v = true ∨ LetSeen f n i v)
theorem bd_b0 (hf : FnT f) (hv : f.Vars.length ≤ 1048576) (n : Int) (n0 : 0 ≤ n) (n1 : n < f.Nodes.length) (hKd : (nth f.Nodes n).Kind = 1) (lp : Bool) (inn : List Bool) (V V0 : Int → Prop) (H0 : Heap) (hcx : Ctx f n lp inn) (hA0 : S.Acc V0 H0) (hb : base ≤ H0.length) (hP : S.Pre H0) (hs : H0[sid]? = some (.cells 9 [scell f iid (.fn g caps)])) (nd : Node) (v6 v7 v8 : PV)
    (hw : ∀ j : Int, 0 ≤ j → j < (nth f.Nodes n).Kids.length → WalkOk S (nth (nth f.Nodes n).Kids j))
    (i : Int) (i0 : 0 ≤ i) (i1 : i < (nth f.Nodes n).Kids.length) (M : PV) (H : Heap) (ed : Edges) (a : List Bool) (ms : List Int) (h : BInv S n inn V H0 nd i M H ed a ms) :
    ∃ M' H' ed' st, EV A (B_zSw 0) ⟨[(0, .ptr sid 0 0 1), (1, .int .i64 n), (2, .bool lp), (3, .ptr H0.length 0 0 1), (6, v6), (7, v7), (8, v8), (47, .int .i64 1), (9, M), (63, ints (nth f.Nodes n).Kids), (64, .int .i64 (nth f.Nodes n).Kids.length), (65, .int .i64 i)], [], H, ed⟩ = some (.normal, st) ∧ st.per.take 12 = [(0, .ptr sid 0 0 1), (1, .int .i64 n), (2, .bool lp), (3, .ptr H0.length 0 0 1), (6, v6), (7, v7), (8, v8), (47, .int .i64 1), (9, M'), (63, ints (nth f.Nodes n).Kids), (64, .int .i64 (nth f.Nodes n).Kids.length), (65, .int .i64 (i + 1))] ∧ st.H = H' ∧ st.ed = ed' ∧ H.length ≤ H'.length ∧ ∃ a' ms', BInv S n inn V H0 nd (i + 1) M' H' ed' a' ms' := by
  have hkl := (hf.hg.hsz n).2
  have c1 := S.c1
  have hl := h.kb.fr.len
  have hlH := some_lt h.kb.nx
  have hkid := hf.kid n0 n1 i0 i1
  have hrl := (hf.hg.hsz (nth (nth f.Nodes n).Kids i)).1
  have hc : Ctx f (nth (nth f.Nodes n).Kids i) lp a := hcx.block hf n0 n1 i0 i1 hKd h.mr.len h.see
  obtain ⟨H', ed', he, hA, hS⟩ := hw i i0 i1 lp a _ H hc (by omega) (S.pre H0 H hP (fun id h1 h2 h3 => h.kb.fr.same id (by omega) h2 h3)) (h.kb.sc S hb hs) h.kb.fr.inn h.kb.acc
  have hb2 := some_lt h.kb.bx
  have hK1 : KB S [] H0 nd a (fun m => ((V m ∨ m = n) ∨ ∃ j : Int, 0 ≤ j ∧ j < i ∧ Sub f.Nodes (nth (nth f.Nodes n).Kids j) m) ∨ Sub f.Nodes (nth (nth f.Nodes n).Kids i) m) H' (ed' ++ ed) := ⟨h.kb.fr.step S hS hb, by rw [hS.same _ hb2 (by omega), h.kb.bx], by rw [hS.same _ hlH (by omega), h.kb.nx], by simp, hA⟩
  have hM1 : Mine H0 M ms H' := h.mi.keep fun mid hm => by
    have := h.mi.lt hm
    exact hS.same _ this.2 (by omega)
  have hK2 := hK1.sets S (W' := fun m => (V m ∨ m = n) ∨ ∃ j : Int, 0 ≤ j ∧ j < i + 1 ∧ Sub f.Nodes (nth (nth f.Nodes n).Kids j) m) (fun m => by
    constructor
    · rintro ((h | ⟨j, j0, j1, h⟩) | h)
      · exact .inl h
      · exact .inr ⟨j, j0, by omega, h⟩
      · exact .inr ⟨i, i0, by omega, h⟩
    · rintro (h | ⟨j, j0, j1, h⟩)
      · exact .inl (.inl h)
      · by_cases hj : j = i
        · rw [hj] at h; exact .inr h
        · exact .inl (.inr ⟨j, j0, by omega, h⟩))
  have hbx := h.kb.bx
  have hbx2 := hK1.bx
  have hsc := hK1.sc S hb hs
  simp only [scell, strs, ups, nodes] at hsc
  have hml := h.ml
  by_cases k2 : (nth f.Nodes (nth (nth f.Nodes n).Kids i)).Kind = 2
  · obtain ⟨a', ms', M', H2, ed2, e2, hL2, hK3, hM3, hR3, hl3, hx3⟩ := lw_b1 S n (nth (nth f.Nodes n).Kids i) i lp inn a _ V0 H0 hA0 hb hs nd (nth f.Nodes n).Kids (nth f.Nodes (nth (nth f.Nodes n).Kids i)).Refs v6 v7 v8 (.int .i64 1) hrl hv ms M H' (ed' ++ ed) hK2 hM1 h.mr (by omega)
    simp only [ints] at e2
    refine ⟨M', H2, ed2, _, by (simp -implicitDefEqProofs +contextual (disch := omega) only [ub_zSw_0, rr_zSw, ints, Node.cells, ↓XD, XU, ↓reduceIte, sevalprocAttr, i1, hbx, he, hbx2, hsc, k2, e2]) <;> rfl, by simp, rfl, rfl, Nat.le_trans hS.len hL2, a', ms', hK3, hM3, hR3, by omega, fun v v0 v1 => ?_⟩
    rw [hx3 v v0 v1, h.see v v0 v1, or_assoc]
    have : LetSeen f n (i + 1) v ↔ LetSeen f n i v ∨ v ∈ (nth f.Nodes (nth (nth f.Nodes n).Kids i)).Refs := by
      constructor
      · rintro ⟨j, j0, j1, j2, j3⟩
        by_cases hj : j = i
        · rw [hj] at j3; exact .inr j3
        · exact .inl ⟨j, j0, by omega, j2, j3⟩
      · rintro (⟨j, j0, j1, j2, j3⟩ | h)
        · exact ⟨j, j0, by omega, j2, j3⟩
        · exact ⟨i, i0, by omega, k2, h⟩
    rw [this]
  · refine ⟨M, H', ed' ++ ed, _, by (simp -implicitDefEqProofs +contextual (disch := omega) only [ub_zSw_0, rr_zSw, ints, Node.cells, ↓XD, XU, ↓reduceIte, sevalprocAttr, i1, hbx, he, hbx2, hsc, k2]) <;> rfl, by simp, rfl, rfl, hS.len, a, ms, hK2, hM1, h.mr, by omega, fun v v0 v1 => ?_⟩
    rw [h.see v v0 v1]
    have : LetSeen f n (i + 1) v ↔ LetSeen f n i v := by
      constructor
      · rintro ⟨j, j0, j1, j2, j3⟩
        by_cases hj : j = i
        · rw [hj] at j2; exact absurd j2 k2
        · exact ⟨j, j0, by omega, j2, j3⟩
      · rintro ⟨j, j0, j1, j2, j3⟩
        exact ⟨j, j0, by omega, j2, j3⟩
    rw [this]
theorem lw_b0 (hf : FnT f) (hv : f.Vars.length ≤ 1048576) (n : Int) (n0 : 0 ≤ n) (n1 : n < f.Nodes.length) (hKd : (nth f.Nodes n).Kind = 1) (lp : Bool) (inn : List Bool) (V V0 : Int → Prop) (H0 : Heap) (hcx : Ctx f n lp inn) (hA0 : S.Acc V0 H0) (hb : base ≤ H0.length) (hP : S.Pre H0) (hs : H0[sid]? = some (.cells 9 [scell f iid (.fn g caps)])) (nd : Node) (v6 v7 v8 : PV)
    (hw : ∀ j : Int, 0 ≤ j → j < (nth f.Nodes n).Kids.length → WalkOk S (nth (nth f.Nodes n).Kids j)) (H1 : Heap) (ed1 : Edges) (h1 : BInv S n inn V H0 nd 0 .nils H1 ed1 inn []) :
    ∃ M' H' ed' a' ms', EV A (.loop (B_zSw 0)) ⟨[(0, .ptr sid 0 0 1), (1, .int .i64 n), (2, .bool lp), (3, .ptr H0.length 0 0 1), (6, v6), (7, v7), (8, v8), (47, .int .i64 1), (9, .nils), (63, ints (nth f.Nodes n).Kids), (64, .int .i64 (nth f.Nodes n).Kids.length), (65, .int .i64 0)], [], H1, ed1⟩ = some (.exit 3, ⟨[(0, .ptr sid 0 0 1), (1, .int .i64 n), (2, .bool lp), (3, .ptr H0.length 0 0 1), (6, v6), (7, v7), (8, v8), (47, .int .i64 1), (9, M'), (63, ints (nth f.Nodes n).Kids), (64, .int .i64 (nth f.Nodes n).Kids.length), (65, .int .i64 (nth f.Nodes n).Kids.length)], [], H', ed'⟩) ∧ BInv S n inn V H0 nd (nth f.Nodes n).Kids.length M' H' ed' a' ms' := by
  have hkl := (hf.hg.hsz n).2
  obtain ⟨r, e, M', H', ed', a', ms', rfl, h⟩ := loop_ind (P := A) (body := (B_zSw 0)) (fun x : Int × PV × Heap × Edges => ⟨[(0, .ptr sid 0 0 1), (1, .int .i64 n), (2, .bool lp), (3, .ptr H0.length 0 0 1), (6, v6), (7, v7), (8, v8), (47, .int .i64 1), (9, x.2.1), (63, ints (nth f.Nodes n).Kids), (64, .int .i64 (nth f.Nodes n).Kids.length), (65, .int .i64 x.1)], [], x.2.2.1, x.2.2.2⟩)
    (fun x => 0 ≤ x.1 ∧ x.1 ≤ (nth f.Nodes n).Kids.length ∧ ∃ a ms, BInv S n inn V H0 nd x.1 x.2.1 x.2.2.1 x.2.2.2 a ms) (fun x => ((nth f.Nodes n).Kids.length - x.1).toNat)
    (fun x r => ∃ M' H' ed' a' ms', r = (AExit.exit 3, (⟨[(0, .ptr sid 0 0 1), (1, .int .i64 n), (2, .bool lp), (3, .ptr H0.length 0 0 1), (6, v6), (7, v7), (8, v8), (47, .int .i64 1), (9, M'), (63, ints (nth f.Nodes n).Kids), (64, .int .i64 (nth f.Nodes n).Kids.length), (65, .int .i64 (nth f.Nodes n).Kids.length)], [], H', ed'⟩ : St)) ∧ BInv S n inn V H0 nd (nth f.Nodes n).Kids.length M' H' ed' a' ms') (by
    rintro ⟨i, M, H, ed⟩ ⟨i0, i1, a, ms, h⟩
    dsimp only at i0 i1 h ⊢
    by_cases hn : i = (nth f.Nodes n).Kids.length
    · left
      subst hn
      exact ⟨_, by simp -implicitDefEqProofs +contextual (disch := omega) only [ub_zSw_0, rr_zSw, ints, ↓XD, XU, ↓reduceIte, sevalprocAttr, Int.lt_irrefl], by simp, M, H, ed, a, ms, rfl, h⟩
    · right
      obtain ⟨M', H', ed', st, e, e1, rfl, rfl, hL, a', ms', h'⟩ := bd_b0 S hf hv n n0 n1 hKd lp inn V V0 H0 hcx hA0 hb hP hs nd v6 v7 v8 hw i i0 (by omega) M H ed a ms h
      have hlH := some_lt h.kb.nx
      have hcut := h'.kb.cut S hA0 hb H.length (by omega) hL [.ptr sid 0 0 1, .int .i64 n, .bool lp, .ptr H0.length 0 0 1, v6, v7, v8, .int .i64 1, M', ints (nth f.Nodes n).Kids, .int .i64 (nth f.Nodes n).Kids.length, .int .i64 (i + 1)]
      refine ⟨(i + 1, M', trim H.length [.ptr sid 0 0 1, .int .i64 n, .bool lp, .ptr H0.length 0 0 1, v6, v7, v8, .int .i64 1, M', ints (nth f.Nodes n).Kids, .int .i64 (nth f.Nodes n).Kids.length, .int .i64 (i + 1)] st.H st.ed), st, ⟨by dsimp only; omega, by dsimp only; omega, a', ms', hcut, h'.mi.keep fun mid hm => trim_keeps _ _ _ _ (.inr ?_), h'.mr, h'.ml, h'.see⟩, by dsimp only; omega, e, ?_, ?_⟩
      · simp [refsL, refs, hm]
      · simp only [St.next, List.length_cons, List.length_nil, Nat.reduceAdd, e1]
        simp
      · rintro r ⟨M', H', ed', a', ms', rfl, h⟩; exact ⟨M', H', ed', a', ms', rfl, h⟩) (0, .nils, H1, ed1) ⟨Int.le_refl _, by dsimp only; omega, inn, [], h1⟩
  exact ⟨M', H', ed', a', ms', e, h⟩
theorem lw_b2 (hf : FnT f) (hv : f.Vars.length ≤ 1048576) (n : Int) (lp : Bool) (inn : List Bool) (W V0 : Int → Prop) (H0 : Heap) (hA0 : S.Acc V0 H0) (hb : base ≤ H0.length) (hs : H0[sid]? = some (.cells 9 [scell f iid (.fn g caps)])) (hli : inn.length = f.Vars.length) (nd : Node) (v6 v7 v8 M : PV) (ms : List Int) (hml : (ms.length : Int) ≤ 3000000000000)
    (H1 : Heap) (ed : Edges) (a1 : List Bool) (hK : KB S [] H0 nd a1 W H1 ed) (hM : Mine H0 M ms H1) (hR : MR f.Vars.length inn ms a1) :
    ∃ H' ed', EV A (.loop (B_zSw 2)) ⟨[(0, .ptr sid 0 0 1), (1, .int .i64 n), (2, .bool lp), (3, .ptr H0.length 0 0 1), (6, v6), (7, v7), (8, v8), (47, .int .i64 1), (9, M), (63, ints (nth f.Nodes n).Kids), (64, .int .i64 (nth f.Nodes n).Kids.length), (65, .int .i64 (nth f.Nodes n).Kids.length), (130, M), (131, .int .i64 ms.length), (132, .int .i64 0)], [], H1, ed⟩ = some (.exit 7, ⟨[(0, .ptr sid 0 0 1), (1, .int .i64 n), (2, .bool lp), (3, .ptr H0.length 0 0 1), (6, v6), (7, v7), (8, v8), (47, .int .i64 1), (9, M), (63, ints (nth f.Nodes n).Kids), (64, .int .i64 (nth f.Nodes n).Kids.length), (65, .int .i64 (nth f.Nodes n).Kids.length), (130, M), (131, .int .i64 ms.length), (132, .int .i64 ms.length)], [], H', ed'⟩) ∧ KB S [] H0 nd inn W H' ed' := by
  have i1 := S.i1
  obtain ⟨r, e, H', ed', rfl, h⟩ := loop_ind (P := A) (body := (B_zSw 2)) (fun x : Int × Heap × Edges => ⟨[(0, .ptr sid 0 0 1), (1, .int .i64 n), (2, .bool lp), (3, .ptr H0.length 0 0 1), (6, v6), (7, v7), (8, v8), (47, .int .i64 1), (9, M), (63, ints (nth f.Nodes n).Kids), (64, .int .i64 (nth f.Nodes n).Kids.length), (65, .int .i64 (nth f.Nodes n).Kids.length), (130, M), (131, .int .i64 ms.length), (132, .int .i64 x.1)], [], x.2.1, x.2.2⟩)
    (fun x => 0 ≤ x.1 ∧ x.1 ≤ ms.length ∧ ∃ a : List Bool, KB S [] H0 nd a W x.2.1 x.2.2 ∧ Mine H0 M ms x.2.1 ∧ a.length = f.Vars.length ∧ ∀ v : Int, 0 ≤ v → v < f.Vars.length → (nth a v = true ↔ nth inn v = true ∨ v ∈ ms.drop x.1.toNat)) (fun x => (ms.length - x.1).toNat)
    (fun x r => ∃ H' ed', r = (AExit.exit 7, (⟨[(0, .ptr sid 0 0 1), (1, .int .i64 n), (2, .bool lp), (3, .ptr H0.length 0 0 1), (6, v6), (7, v7), (8, v8), (47, .int .i64 1), (9, M), (63, ints (nth f.Nodes n).Kids), (64, .int .i64 (nth f.Nodes n).Kids.length), (65, .int .i64 (nth f.Nodes n).Kids.length), (130, M), (131, .int .i64 ms.length), (132, .int .i64 ms.length)], [], H', ed'⟩ : St)) ∧ KB S [] H0 nd inn W H' ed') (by
    rintro ⟨i, H, ed⟩ ⟨i0, i2, a, hK, hM, hal, hx⟩
    dsimp only at i0 i2 hK hM hx ⊢
    by_cases hn : i = ms.length
    · left
      subst hn
      have ha : a = inn := nth_ext (by rw [hal, hli]) fun v v0 v1 => by
        rw [hal] at v1
        have := hx v v0 v1
        rw [show ms.drop (ms.length : Int).toNat = [] by simp] at this
        simp only [List.not_mem_nil, or_false] at this
        rw [Bool.eq_iff_iff]; exact this
      subst ha
      exact ⟨_, by simp -implicitDefEqProofs +contextual (disch := omega) only [ub_zSw_2, rr_zSw, ints, ↓XD, XU, ↓reduceIte, sevalprocAttr, Int.lt_irrefl], by simp, H, ed, rfl, hK⟩
    · right
      have i3 : i < ms.length := by omega
      have hvn := hR.new (nth ms i) (nth_mem i0 i3)
      have hbx := hK.bx
      have hin := hK.fr.inn
      have hsc := hK.sc S hb hs
      have hHl := hK.fr.len
      simp only [scell, strs, ups, nodes] at hsc
      have hK' := hK.setin S hb (a.set (nth ms i).toNat false)
      rcases hM with ⟨rfl, rfl⟩ | ⟨mid, rfl, hm1, hm2⟩
      · simp at i3; omega
      · have hlH := some_lt hK.nx
        have hcut := hK'.cut S hA0 hb H.length (by omega) (by simp) [.ptr sid 0 0 1, .int .i64 n, .bool lp, .ptr H0.length 0 0 1, v6, v7, v8, .int .i64 1, .sl mid 0 ms.length ms.length, ints (nth f.Nodes n).Kids, .int .i64 (nth f.Nodes n).Kids.length, .int .i64 (nth f.Nodes n).Kids.length, .sl mid 0 ms.length ms.length, .int .i64 ms.length, .int .i64 (i + 1)]
        refine ⟨(i + 1, trim H.length [.ptr sid 0 0 1, .int .i64 n, .bool lp, .ptr H0.length 0 0 1, v6, v7, v8, .int .i64 1, .sl mid 0 ms.length ms.length, ints (nth f.Nodes n).Kids, .int .i64 (nth f.Nodes n).Kids.length, .int .i64 (nth f.Nodes n).Kids.length, .sl mid 0 ms.length ms.length, .int .i64 ms.length, .int .i64 (i + 1)] (H.set iid (.cells 1 (bl (a.set (nth ms i).toNat false)))) ed), _, ⟨by dsimp only; omega, by dsimp only; omega, a.set (nth ms i).toNat false, hcut, .inr ⟨mid, rfl, hm1, ?_⟩, by simpa using hal, fun v v0 v1 => ?_⟩, by dsimp only; omega, by (simp -implicitDefEqProofs +contextual (disch := omega) only [ub_zSw_2, rr_zSw, ints, ↓XD, XU, ↓reduceIte, sevalprocAttr, i3, hbx, hsc, hin, hal, hm2, hvn.1, hvn.2.1]) <;> rfl, by simp [St.next, ints], ?_⟩
        · dsimp only; rw [trim_keeps _ _ _ _ (.inl (some_lt hm2)), List.getElem?_set_ne (by omega)]; exact hm2
        · dsimp only
          have hd : ms.drop i.toNat = nth ms i :: ms.drop (i + 1).toNat := by
            rw [List.drop_eq_getElem_cons (by omega : i.toNat < ms.length), ← nth_get i0 i3, show (i + 1).toNat = i.toNat + 1 by omega]
          rw [nth_set hvn.1 (by rw [hal]; exact hvn.2.1) v0]
          have h5 := hx v v0 v1
          rw [hd, List.mem_cons] at h5
          by_cases he : nth ms i = v
          · rw [if_pos he]
            have hnd := hR.nodup
            rw [← List.take_append_drop i.toNat ms, hd] at hnd
            have hnd2 := (List.nodup_cons.1 (List.nodup_append.1 hnd).2.1).1
            constructor
            · intro h; cases h
            · rintro (h | h)
              · exact absurd h (he ▸ hvn.2.2)
              · exact absurd h (he ▸ hnd2)
          · rw [if_neg he, h5]
            exact ⟨fun h => h.elim .inl (fun h => h.elim (fun h => absurd h.symm he) .inr), fun h => h.elim .inl (fun h => .inr (.inr h))⟩
        · rintro r ⟨H', ed', rfl, h⟩; exact ⟨H', ed', rfl, h⟩) (0, H1, ed) ⟨Int.le_refl _, by dsimp only; omega, a1, hK, hM, hR.len, fun v v0 v1 => by rw [hR.is v v0 v1]; simp⟩
  exact ⟨H', ed', e, h⟩
end
end
section
section
variable {f : Fn} {sid iid cid base g : Nat} {caps : List PV} (S : See f sid iid cid base g caps)
theorem Mine.len {H0 H : Heap} {M : PV} {ms : List Int} (h : Mine H0 M ms H) : lenV M = some (.int .i64 ms.length) := by
  rcases h with ⟨rfl, rfl⟩ | ⟨m, rfl, _⟩ <;> rfl
theorem walk_block (hf : FnT f) (hb0 : f.Vars.length ≤ 1048576) (n : Int) (n0 : 0 ≤ n) (n1 : n < f.Nodes.length) (hK : (nth f.Nodes n).Kind = 1)
    (hw : ∀ j : Int, 0 ≤ j → j < (nth f.Nodes n).Kids.length → WalkOk S (nth (nth f.Nodes n).Kids j)) : WalkOk S n := by
  intro lp inn V H0 hc hb hP hs hi hA
  obtain ⟨H1, e1, p⟩ := walk_pro S n n0 n1 lp inn V H0 hc hb hP hs hi hA
  have k0 := p.kb
  have hkl := (hf.hg.hsz n).2
  have k1 : KB S [] H0 (nth f.Nodes n) inn (fun m => (V m ∨ m = n) ∨ ∃ j : Int, 0 ≤ j ∧ j < 0 ∧ Sub f.Nodes (nth (nth f.Nodes n).Kids j) m) (H1 ++ [.cells 1 (bl inn), .cells 1 [[.sl H1.length 0 f.Vars.length f.Vars.length]]]) e1 :=
    KB.sets S (⟨k0.fr, k0.bx, k0.nx, by simp, k0.acc⟩ : KB S [] H0 (nth f.Nodes n) inn (fun m => V m ∨ m = n) _ e1) fun m => ⟨.inl, fun h => h.elim id (fun ⟨j, j0, j1, _⟩ => by omega)⟩
  obtain ⟨M', H3, e3, a', ms', el, b1⟩ := lw_b0 S hf hb0 n n0 n1 hK lp inn V V H0 hc hA hb hP hs (nth f.Nodes n) (.ptr (H0.length + 1) 0 0 1) (.ptr (H1.length + 1) 0 0 1) (.fn n_zSw_S1 [.ptr H0.length 0 0 1, .ptr (H1.length + 1) 0 0 1, .ptr (H0.length + 1) 0 0 1]) hw _ _
    ⟨k1, .inl ⟨rfl, rfl⟩, ⟨hc.len, fun v _ _ => by simp, by simp, List.nodup_nil⟩, by simp, fun v _ _ => ⟨.inl, fun h => h.elim id (fun ⟨j, j0, j1, _⟩ => by omega)⟩⟩
  have hml := b1.ml
  obtain ⟨H4, e4, el2, k4⟩ := lw_b2 S hf hb0 n lp inn _ V H0 hA hb hs hc.len (nth f.Nodes n) (.ptr (H0.length + 1) 0 0 1) (.ptr (H1.length + 1) 0 0 1) (.fn n_zSw_S1 [.ptr H0.length 0 0 1, .ptr (H1.length + 1) 0 0 1, .ptr (H0.length + 1) 0 0 1]) M' ms' (by omega) H3 e3 a' b1.kb b1.mi b1.mr
  have hlm := b1.mi.len
  have hfin := k4.fr.fin S hi hA k4.acc hb []
  refine ⟨_, _, ?_, ?_, hfin.1⟩
  · have s0 := p.s0
    have q0 := p.q0
    have q1 := p.q1
    have q3 := p.q3
    have he := p.he
    simp only [scell, strs, ups, nodes] at s0 q1 q0
    simp only [Node.cells, ints, hK] at q3 he
    have hlb : (bl inn).length * 1 ≤ 35184372088832 := by have := hc.len; simp; omega
    have ha := appendTo_nils H1 1 1 (bl inn) hlb
    have hl := hc.len
    simp only [ints] at el el2
    simp -implicitDefEqProofs +contextual (disch := omega) only [s_zSw, u_zSw, rr_zSw, scell, strs, ups, nodes, Node.cells, ints, ↓e_append, appK_some, ↓XD, XU, ↓reduceIte, sevalprocAttr, s0, he, q0, p.q00, q1, p.q2, q3, p.r1, p.r2, ha, hl, hK, p.nl, el, el2, hlm]
  · refine cast (congrArg (fun P => S.Acc P _) (funext fun m => propext ?_)) hfin.2
    rw [sub_iff f.Nodes n m, or_assoc]
omit S in
theorem kids_stat {ns : List Node} {n : Int} (h : Shape ns n) : ((nth ns n).Kind = 6 ∨ (nth ns n).Kind = 7 ∨ (nth ns n).Kind = 8 → 1 ≤ (nth ns n).Kids.length) ∧ ((nth ns n).Kind = 12 → (nth ns n).Kids.length = 2) := by
  obtain ⟨_, _, h | h⟩ := h
  · have h2 := h.2.2.2
    simp only [Stmt] at h2
    constructor
    · intro hk
      rcases h2 with h | h | h | h | h | h | h | h | h | h | h | h <;> omega
    · intro hk
      rcases h2 with h | h | h | h | h | h | h | h | h | h | h | h <;> omega
  · have h2 := h.1
    simp only [isStat] at h2
    constructor <;> intro hk <;> omega
theorem walk_ok (hf : FnT f) (hb0 : f.Vars.length ≤ 1048576) (n : Int) (n0 : 0 ≤ n) (n1 : n < f.Nodes.length) : WalkOk S n := by
  have : ∀ k : Nat, ∀ n : Int, n.toNat < k → 0 ≤ n → n < f.Nodes.length → WalkOk S n := by
    intro k
    induction k with
    | zero => intro n h; omega
    | succ k ih =>
      intro n hk n0 n1
      have hw : ∀ j : Int, 0 ≤ j → j < (nth f.Nodes n).Kids.length → WalkOk S (nth (nth f.Nodes n).Kids j) := fun j j0 j1 => by
        have := hf.kid n0 n1 j0 j1
        exact ih _ (by omega) this.1 (by omega)
      have hsh := hf.hsh n n0 n1
      by_cases h1 : (nth f.Nodes n).Kind = 1
      · exact walk_block S hf hb0 n n0 n1 h1 hw
      by_cases h7 : (nth f.Nodes n).Kind = 7
      · exact walk_7 S hf hb0 n n0 n1 h7 ((kids_stat hsh).1 (by omega)) hw
      by_cases h8 : (nth f.Nodes n).Kind = 8
      · exact walk_8 S hf hb0 n n0 n1 h8 ((kids_stat hsh).1 (by omega)) hw
      by_cases h6 : (nth f.Nodes n).Kind = 6
      · exact walk_6 S hf hb0 n n0 n1 h6 ((kids_stat hsh).1 (by omega)) hw
      by_cases h12 : (nth f.Nodes n).Kind = 12
      · exact walk_try S hf hb0 n n0 n1 h12 ((kids_stat hsh).2 h12) hw
      exact walk_default S hf hb0 n n0 n1 ⟨h1, h7, h8, h6, h12⟩ hw
  exact this (n.toNat + 1) n (by omega) n0 n1
end
end
theorem Sub.tail {ns : List Node} {a p : Int} (h : Sub ns a p) {j : Int} (j0 : 0 ≤ j) (j1 : j < (nth ns p).Kids.length) : Sub ns a (nth (nth ns p).Kids j) := by
  induction h with
  | self n => exact .kid j0 j1 (.self _)
  | kid i0 i1 _ ih => exact .kid i0 i1 (ih j1)
theorem sub_root {f : Fn} (hf : FnT f) (m : Int) (m0 : 0 ≤ m) (m1 : m < f.Nodes.length) : Sub f.Nodes ((f.Nodes.length : Int) - 1) m := by
  have : ∀ k : Nat, ∀ m : Int, (f.Nodes.length - m).toNat < k → 0 ≤ m → m < f.Nodes.length → Sub f.Nodes ((f.Nodes.length : Int) - 1) m := by
    intro k
    induction k with
    | zero => intro m h; omega
    | succ k ih =>
      intro m hk m0 m1
      by_cases he : m = (f.Nodes.length : Int) - 1
      · rw [he]; exact .self _
      · have h4 := hf.h4 m m0 m1
        rcases hf.ht.2 m m0 m1 with h | ⟨h, h2, h3⟩
        · exact absurd (.inl ⟨he, by omega⟩) h4
        · have hp := place_mem (place_nonneg h3).1
          have := ih (nth (growP f.Nodes) m) (by omega) (by omega) h2
          have h5 := this.tail hp.1 hp.2.1
          rw [hp.2.2] at h5
          exact h5
  exact this _ m (Nat.lt_succ_self _) m0 m1
theorem sub_range {f : Fn} (hf : FnT f) {n m : Int} (h : Sub f.Nodes n m) (n0 : 0 ≤ n) (n1 : n < f.Nodes.length) : 0 ≤ m ∧ m < f.Nodes.length := by
  induction h with
  | self n => exact ⟨n0, n1⟩
  | kid j0 j1 _ ih =>
    have := hf.kid n0 n1 j0 j1
    exact ih this.1 (by omega)
theorem nth_seen0 (f : Fn) (hp0 : 0 ≤ f.Params) (hp : f.Params ≤ f.Vars.length) : (seen0 f).length = f.Vars.length ∧ ∀ v : Int, 0 ≤ v → v < f.Vars.length → (nth (seen0 f) v = true ↔ v < f.Params) := by
  have := iter_inv (g := fun (i : Int) (a : List Bool) => a.set i.toNat true) (fun i (b : List Bool) => b.length = f.Vars.length ∧ ∀ v : Int, 0 ≤ v → v < f.Vars.length → (nth b v = true ↔ v < i)) 0 f.Params (by
    rintro i b i0 i1 ⟨hl, h⟩
    refine ⟨by simpa using hl, fun v v0 v1 => ?_⟩
    rw [nth_set i0 (by omega) v0]
    by_cases he : i = v
    · rw [if_pos he]; simp; omega
    · rw [if_neg he, h v v0 v1]; omega) (a := List.replicate f.Vars.length false) hp0 ⟨by simp, fun v v0 v1 => by
      have : nth (List.replicate f.Vars.length false) v = false := by
        have h1 : v.toNat < f.Vars.length := by omega
        simp [nth, List.getD, List.getElem?_replicate, h1]
      rw [this]; simp; omega⟩
  exact this
theorem ctx_root {f : Fn} (hf : FnT f) : Ctx f ((f.Nodes.length : Int) - 1) false (seen0 f) := by
  have hs := nth_seen0 f hf.hp0 hf.hp
  have h1 := hf.hg.h1
  have hl := growP_last f.Nodes hf.hg.hki h1
  refine ⟨hs.1, fun v v0 v1 => ?_, ?_⟩
  · rw [hs.2 v v0 v1, Visible, hl]
    exact ⟨.inl, fun h => h.resolve_right (vis_end (by omega))⟩
  · rw [hl]
    exact ⟨fun h => (by cases h), fun h => absurd h (inloop_end (by omega))⟩
theorem lw_par (f : Fn) (H : Heap) (g : Nat) (caps : List PV) (hv : f.Vars.length ≤ 1048576) (hp0 : 0 ≤ f.Params) (hp : f.Params ≤ f.Vars.length) (a0 : List Bool) (hok0 : a0.length = f.Vars.length) : EV A (.loop (B_impl_scopes 0)) (⟨[(0, .agg f.cells), (1, .fn g caps), (2, .ptr H.length 0 0 1), (4, .ptr (H.length + 2) 0 0 1), (15, .int .i64 f.Params), (16, .int .i64 (0))], [], H ++ [.cells 7 [f.cells], .cells 1 (bl a0), .cells 9 [scell f (H.length + 1) (.fn g caps)]], []⟩ : St) = some (AExit.exit 0, (⟨[(0, .agg f.cells), (1, .fn g caps), (2, .ptr H.length 0 0 1), (4, .ptr (H.length + 2) 0 0 1), (15, .int .i64 f.Params), (16, .int .i64 (f.Params))], [], H ++ [.cells 7 [f.cells], .cells 1 (bl (iter (fun (i : Int) (a : List Bool) => a.set i.toNat true) ((f.Params : Int) - 0).toNat (0) a0)), .cells 9 [scell f (H.length + 1) (.fn g caps)]], []⟩ : St)) ∧ (iter (fun (i : Int) (a : List Bool) => a.set i.toNat true) ((f.Params : Int) - 0).toNat (0) a0).length = f.Vars.length := by
  refine loop_iter (fun i (a : List Bool) => (⟨[(0, .agg f.cells), (1, .fn g caps), (2, .ptr H.length 0 0 1), (4, .ptr (H.length + 2) 0 0 1), (15, .int .i64 f.Params), (16, .int .i64 i)], [], H ++ [.cells 7 [f.cells], .cells 1 (bl a), .cells 9 [scell f (H.length + 1) (.fn g caps)]], []⟩ : St)) (fun (i : Int) (a : List Bool) => a.set i.toNat true) (fun i (a : List Bool) => a.length = f.Vars.length) (fun a => (AExit.exit 0, (⟨[(0, .agg f.cells), (1, .fn g caps), (2, .ptr H.length 0 0 1), (4, .ptr (H.length + 2) 0 0 1), (15, .int .i64 f.Params), (16, .int .i64 (f.Params))], [], H ++ [.cells 7 [f.cells], .cells 1 (bl a), .cells 9 [scell f (H.length + 1) (.fn g caps)]], []⟩ : St))) (0) (f.Params) ?_ ?_ (0) a0 (by omega) (by omega) hok0
  · intro i a hi hn hok
    refine ⟨⟨_, by simp -implicitDefEqProofs +contextual (disch := omega) only [ub_impl_scopes_0, rr_impl_scopes, ↓XD, XU, ↓reduceIte, sevalprocAttr, bl, scell, Fn.cells, nodes, strs, ups, ints, hn, hok]; rfl, by first | (simp [St.next, trim_all]; done) | (simp [St.next, trim_all]; omega) | (simp [St.next, trim, bare, refsL, refs]; done)⟩, by simp; omega⟩
  · rintro i a hi rfl hok
    refine ⟨by simp -implicitDefEqProofs +contextual (disch := omega) only [ub_impl_scopes_0, rr_impl_scopes, ↓XD, XU, ↓reduceIte, sevalprocAttr, bl, scell, Fn.cells, nodes, strs, ups, ints, Int.lt_irrefl, hok], by simp⟩
theorem es_scopes {f : Fn} (hf : FnT f) (H : Heap) {cid g : Nat} {caps : List PV} (hcid : cid < H.length) (S : See f (H.length + 2) (H.length + 1) cid (H.length + 3) g caps)
    (hP : S.Pre (H ++ [.cells 7 [f.cells], .cells 1 (bl (seen0 f)), .cells 9 [scell f (H.length + 1) (.fn g caps)]])) (hA : S.Acc (fun _ => False) (H ++ [.cells 7 [f.cells], .cells 1 (bl (seen0 f)), .cells 9 [scell f (H.length + 1) (.fn g caps)]])) :
    ∃ H' ed', ES A n_impl_scopes [.agg f.cells, .fn g caps] H = some (.tup [], H', ed') ∧ S.Acc (fun m : Int => 0 ≤ m ∧ m < f.Nodes.length) H' ∧ (∀ id, id < H.length → id ≠ cid → H'[id]? = H[id]?) ∧ H.length ≤ H'.length ∧ ∀ e ∈ ed', (e.1 = cid ∧ cid < e.2) ∧ e.2 < H'.length := by
  have hb := hf.hg.hb
  have h1 := hf.hg.h1
  have hl := lw_par f H g caps hf.hv hf.hp0 hf.hp (List.replicate f.Vars.length false) (by simp)
  have hS : seen0 f = iter (fun (i : Int) (a : List Bool) => a.set i.toNat true) (f.Params - 0).toNat 0 (List.replicate f.Vars.length false) := rfl
  rw [← hS] at hl
  obtain ⟨H', ed', he, hA2, hst⟩ := walk_ok S hf hf.hv ((f.Nodes.length : Int) - 1) (by omega) (by omega) false (seen0 f) _ _ (ctx_root hf) (by simp) hP (by rw [app_get]; rfl) (by rw [app_get]; rfl) hA
  have hb2 := hf.hv
  have hin : ∀ r es, (H ++ [Blk.cells 7 [f.cells], .cells 1 (bl (seen0 f)), .cells 9 [scell f (H.length + 1) (.fn g caps)]])[r]? = some (.map es) → r < H.length := fun r es h => by
    rcases Nat.lt_or_ge r H.length with h2 | h2
    · exact h2
    · rw [List.getElem?_append_right h2] at h
      have : r - H.length = 0 ∨ r - H.length = 1 ∨ r - H.length = 2 ∨ 3 ≤ r - H.length := by omega
      rcases this with e | e | e | e
      · rw [e] at h; cases h
      · rw [e] at h; cases h
      · rw [e] at h; cases h
      · rw [List.getElem?_eq_none (by simpa using e)] at h; cases h
  have hset : (fun m : Int => False ∨ Sub f.Nodes ((f.Nodes.length : Int) - 1) m) = fun m : Int => 0 ≤ m ∧ m < f.Nodes.length := funext fun m => propext ⟨fun h => sub_range hf (h.resolve_left id) (by omega) (by omega), fun h => .inr (sub_root hf m h.1 h.2)⟩
  rw [hset] at hA2
  have hlen : H.length + 3 ≤ H'.length := by have := hst.len; simpa using this
  refine ⟨(trim H.length [] H' ed').1, (trim H.length [] H' ed').2, ?_, ?_, fun id h2 h3 => ?_, trim_len _ _ _ _ (by omega), fun e he => ?_⟩
  · simp only [scell, strs, ups, nodes] at he
    have hl := hl.1
    simp only [bl, scell, strs, ups, nodes] at hl he
    simp -implicitDefEqProofs +contextual (disch := omega) only [s_impl_scopes, u_impl_scopes, rr_impl_scopes, bl, scell, Fn.cells, strs, ups, nodes, ints, ↓XD, XU, ↓reduceIte, sevalprocAttr, hl, he]
  · rcases trim_cases H.length [] H' ed' with e | ⟨e, he2⟩
    · rw [e]; exact hA2
    · rw [e]
      refine S.stable _ H' _ hA2 (by show (H'.take _)[cid]? = _; rw [List.getElem?_take, if_pos hcid]) fun b r hb hr => ?_
      have hr2 : r < H.length := by
        rcases hst.fw b r hb hr with ⟨b0, h5, h6⟩ | h5
        · obtain ⟨es, h7⟩ := S.maps _ _ hA b0 r h5 h6
          exact hin r es h7
        · rcases he2 _ h5 with h6 | h6
          · dsimp only at h6; omega
          · exact h6
      show (H'.take _)[r]? = _
      rw [List.getElem?_take, if_pos hr2]
  · rw [trim_keeps _ _ _ _ (.inl h2), hst.same id (by simp; omega) h3, List.getElem?_append_left h2]
  · rcases trim_cases H.length [] H' ed' with e2 | ⟨e2, _⟩
    · rw [e2] at he ⊢; exact hst.bd e he
    · rw [e2] at he ⊢
      have h5 := List.mem_filter.1 he
      refine ⟨(hst.bd e h5.1).1, ?_⟩
      show e.2 < (H'.take _).length
      rw [List.length_take]; have := h5.2; simp at this; omega
theorem e_mkmap {P : AProg} (st : St) : evOp P.glob (CL P) st .mkmap = some (.mp st.H.length, st.H ++ [.map []], []) := rfl
def insK (H : Heap) (tag : Nat) (m k v : PV) : Option (PV × Heap × Edges) := match m with
    | .mp id => match H[id]? with
      | some (.map es) => match findKey tag k es with
        | some none => some (.und, H.set id (.map (es ++ [(k, v)])), edgesTo id [k, v])
        | _ => none
      | _ => none
    | _ => none
def tgtM : PV → Option (Option Nat)
  | .mp id => some (some id)
  | _ => none
def insC (H : Heap) (tag : Nat) (m k v x : PV) : Option (PV × Heap × Edges) :=
  match clearOf (tgtM m) x with
  | true => insK H tag m k v
  | false => none
theorem e_insert1 {P : AProg} (d : Option (Bool × Nat)) (gd : Option (Opd × Bool)) (tag : Nat) (m k v x : Opd) (st : St) : evOper P.glob (CL P) st ⟨d, .insert tag m k v, gd, false, [x]⟩ = insC st.H tag (m.get P.glob st) (k.get P.glob st) (v.get P.glob st) (x.get P.glob st) := by
  have h0 : evOper P.glob (CL P) st ⟨d, .insert tag m k v, gd, false, [x]⟩ = match okNow P.glob st ⟨d, .insert tag m k v, gd, false, [x]⟩ with
      | true => match evOp P.glob (CL P) st (.insert tag m k v) with
        | some r => match !false || (refs r.1).isEmpty with | true => some r | false => none
        | none => none
      | false => none := rfl
  have h1 : okNow P.glob st ⟨d, .insert tag m k v, gd, false, [x]⟩ = clearOf (tgtM (m.get P.glob st)) (x.get P.glob st) := by
    show (true && (clearOf _ _ && true)) = _
    rw [Bool.true_and, Bool.and_true]; rfl
  have h2 : evOp P.glob (CL P) st (.insert tag m k v) = insK st.H tag (m.get P.glob st) (k.get P.glob st) (v.get P.glob st) := rfl
  rw [h0, h1, insC, h2]
  cases clearOf (tgtM (m.get P.glob st)) (x.get P.glob st) with
  | false => rfl
  | true => cases insK st.H tag (m.get P.glob st) (k.get P.glob st) (v.get P.glob st) <;> rfl
theorem ins_one (H : Heap) (v : Int) (b : Bool) (q a c d : Nat) (hq : q < H.length) : insC (H ++ [.map []]) 0 (.mp H.length) (.int .i64 v) (.bool b) (.ptr q a c d) = some (.und, H ++ [.map [(.int .i64 v, .bool b)]], []) := by
  have h1 : clearOf (some (some H.length)) (.ptr q a c d) = true := by
    show (!(Nat.beq H.length q)) = true
    have : Nat.beq H.length q = false := by
      cases hb : Nat.beq H.length q with
      | false => rfl
      | true => have := Nat.eq_of_beq_eq_true hb; omega
    rw [this]; rfl
  simp only [insC, tgtM, h1, insK]
  have h2 : (H ++ [Blk.map []])[H.length]? = some (.map []) := by simp
  have h3 : (H ++ [Blk.map []]).set H.length (.map [(.int .i64 v, .bool b)]) = H ++ [.map [(.int .i64 v, .bool b)]] := by simp
  rw [h2]
  show some (PV.und, (H ++ [Blk.map []]).set H.length (.map [(.int .i64 v, .bool b)]), edgesTo H.length [.int .i64 v, .bool b]) = _
  rw [h3]; rfl
section
section
variable (f : Fn) (n : Int) (inn : List Bool) (lp : Bool) (H : Heap) (rows : List (List PV)) (fb cid bid iid : Nat) (n0 : 0 ≤ n) (n1 : n < f.Nodes.length) (hv : f.Vars.length ≤ 1048576) (hb : f.Nodes.length ≤ 1048576) (hf : H[fb]? = some (.cells 7 [f.cells])) (hbx : H[bid]? = some (.cells 1 [[.sl cid 0 f.Nodes.length f.Nodes.length]])) (hc : H[cid]? = some (.cells 1 rows)) (hr : rows.length = f.Nodes.length) (hi : H[iid]? = some (.cells 1 (bl inn))) (hl : inn.length = f.Vars.length)
include n0 n1 hv hb hf hbx hc hr hi hl
theorem es_S1_no (hK : ¬(nth f.Nodes n).Kind = 26) : ES A n_zCU_S1 [.int .i64 n, .sl iid 0 f.Vars.length f.Vars.length, .bool lp, .ptr fb 0 0 1, .ptr bid 0 0 1] H = some (.tup [], H, []) := by
  simp only [Fn.cells, nodes] at hf
  simp -implicitDefEqProofs +contextual (disch := omega) only [s_zCU_S1, u_zCU_S1, rr_zCU_S1, Fn.cells, Node.cells, strs, ups, nodes, ints, ↓XD, XU, ↓reduceIte, sevalprocAttr, hf, hbx, hc, hr, hi, hl, n0, n1, hK]
  simp [trim, bare, refsL, refs]
theorem es_S1_yes (hK : (nth f.Nodes n).Kind = 26) (hk1 : (nth f.Nodes n).Refs.length = 1) (p : PV) (hp : nth rows n = [p]) : ∃ b : Bool, (b = true ↔ 0 ≤ nth (nth f.Nodes n).Refs 0 ∧ nth (nth f.Nodes n).Refs 0 < f.Vars.length ∧ nth inn (nth (nth f.Nodes n).Refs 0) = true) ∧ ES A n_zCU_S1 [.int .i64 n, .sl iid 0 f.Vars.length f.Vars.length, .bool lp, .ptr fb 0 0 1, .ptr bid 0 0 1] H = some (.tup [], (H ++ [Blk.cells 8 [(nth f.Nodes n).cells], Blk.map [(.int .i64 (nth (nth f.Nodes n).Refs 0), .bool b)]]).set cid (.cells 1 (rows.set n.toNat [.mp (H.length + 1)])), [(cid, H.length + 1)]) := by
  have q1 : ∀ l, (H ++ l)[bid]? = some (.cells 1 [[.sl cid 0 f.Nodes.length f.Nodes.length]]) := fun l => app_old _ _ hbx
  have q2 : ∀ l, (H ++ l)[cid]? = some (.cells 1 rows) := fun l => app_old _ _ hc
  have q3 : ∀ l, (H ++ l)[iid]? = some (.cells 1 (bl inn)) := fun l => app_old _ _ hi
  have hcl := some_lt hc
  have hbl := some_lt hbx
  have hclt : cid < H.length + 1 := by omega
  have ht : ∀ H2, trim H.length [] H2 [(cid, H.length + 1)] = (H2, [(cid, H.length + 1)]) := fun H2 => by
    have h1 : ¬H.length ≤ cid := by omega
    have h2 : ¬H.length + 1 < H.length := by omega
    simp [trim, h1, h2]
  simp only [Fn.cells, nodes] at hf
  have hins := fun b => ins_one (H ++ [Blk.cells 8 [(nth f.Nodes n).cells]]) (nth (nth f.Nodes n).Refs 0) b bid 0 0 1 (by simp; omega)
  simp only [Node.cells, ints, hK, List.append_assoc, List.cons_append, List.nil_append, List.length_append, List.length_cons, List.length_nil, Nat.zero_add] at hins
  by_cases k1 : 0 ≤ nth (nth f.Nodes n).Refs 0
  · by_cases k2 : nth (nth f.Nodes n).Refs 0 < f.Vars.length
    · refine ⟨nth inn (nth (nth f.Nodes n).Refs 0), by simp [k1, k2], ?_⟩
      simp -implicitDefEqProofs +contextual (disch := omega) only [s_zCU_S1, u_zCU_S1, rr_zCU_S1, Fn.cells, Node.cells, strs, ups, nodes, ints, e_mkmap, e_insert1, ↓XD, XU, ↓reduceIte, sevalprocAttr, hf, hbx, hc, hr, hi, hl, n0, n1, hK, hk1, k2, k1, k2, q1, q2, q3, hins, hp, hclt, ht]
    · refine ⟨false, by simp [k2], ?_⟩
      simp -implicitDefEqProofs +contextual (disch := omega) only [s_zCU_S1, u_zCU_S1, rr_zCU_S1, Fn.cells, Node.cells, strs, ups, nodes, ints, e_mkmap, e_insert1, ↓XD, XU, ↓reduceIte, sevalprocAttr, hf, hbx, hc, hr, hi, hl, n0, n1, hK, hk1, k2, k1, k2, q1, q2, q3, hins, hp, hclt, ht]
  · refine ⟨false, by simp [k1], ?_⟩
    simp -implicitDefEqProofs +contextual (disch := omega) only [s_zCU_S1, u_zCU_S1, rr_zCU_S1, Fn.cells, Node.cells, strs, ups, nodes, ints, e_mkmap, e_insert1, ↓XD, XU, ↓reduceIte, sevalprocAttr, hf, hbx, hc, hr, hi, hl, n0, n1, hK, hk1, k1, q1, q2, q3, hins, hp, hclt, ht]
end
end
end Go.Proofs.Try.Av
end
