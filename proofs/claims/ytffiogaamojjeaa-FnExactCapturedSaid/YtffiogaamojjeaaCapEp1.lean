/- What the functions that FnExactCaptured reaches give, each with its own bounds. -/
import Derived.Test.YtffiogaamojjeaaCapAv3
import Derived.Test.YtffiogaamojjeaaCapCodes
set_option linter.all false
section
attribute [local congr] ite_congr
set_option maxRecDepth 10000
set_option maxHeartbeats 1000000
namespace Go.Proofs.Try.Av
open Go Go.Av Classical
structure Node where
  Kind : Int
  Line : Int
  Op : Int
  Num : Int
  Flt : Nat
  Str : ByteArray
  Refs : List Int
  Kids : List Int
  deriving Inhabited
abbrev ints (ks : List Int) : PV := .fz (ks.map fun k => [.int .i64 k])
abbrev Node.cells (n : Node) : List PV := [.int .i64 n.Kind, .int .i64 n.Line, .int .i64 n.Op, .int .i64 n.Num, .flt .f64 n.Flt, .str n.Str, ints n.Refs, ints n.Kids]
abbrev nodes (ns : List Node) : PV := .fz (ns.map Node.cells)
def Bare (o m : Int) (fl : Nat) (s : ByteArray) (r : Int) (op num flt str : Bool) (rf : Int) : Prop := (op = true ∨ o = 0) ∧ (num = true ∨ m = 0) ∧ (flt = true ∨ FloatKind.f64.format.order fl 0 = some .eq) ∧ (str = true ∨ s.toList = (⟨#[]⟩ : ByteArray).toList) ∧ r = rf
theorem ep_l3bare (k l : Int) (q : List (List PV)) (o m : Int) (fl : Nat) (s : ByteArray) (rs : List Int) (op num flt str : Bool) (rf : Int) : EP A n_spec_l3bare [.agg [.int .i64 k, .int .i64 l, .int .i64 o, .int .i64 m, .flt .f64 fl, .str s, .fz (rs.map fun k => [.int .i64 k]), .fz q], .bool op, .bool num, .bool flt, .bool str, .int .i64 rf] = some (.bool (decide (Bare o m fl s rs.length op num flt str rf))) := by
  simp -implicitDefEqProofs +contextual (disch := omega) only [e_spec_l3bare, u_spec_l3bare, rr_spec_l3bare, ↓XD, XU, ↓reduceIte, sevalprocAttr]
  congr 2; rw [Bool.eq_iff_iff]; simp [Bare, and_assoc]
def l3kid (ns : List Node) (a i : Int) : Int := if ((nth ns a).Kids.length : Int) ≤ i then 0 else if nth (nth ns a).Kids i < 0 ∨ a ≤ nth (nth ns a).Kids i then 0 else (nth ns (nth (nth ns a).Kids i)).Kind
theorem ep_l3kid (ns : List Node) (a i : Int) (h0 : 0 ≤ a) (h1 : a < ns.length) (h2 : 0 ≤ i) : EP A n_spec_l3kid [nodes ns, .int .i64 a, .int .i64 i] = some (.int .i64 (l3kid ns a i)) := by
  simp -implicitDefEqProofs +contextual (disch := omega) only [e_spec_l3kid, u_spec_l3kid, rr_spec_l3kid, nodes, Node.cells, ints, ↓XD, XU, ↓reduceIte, sevalprocAttr]
  rfl
def isExpr (k : Int) : Prop := 20 ≤ k ∧ k ≤ 38
def isStat (k : Int) : Prop := 1 ≤ k ∧ k ≤ 14
theorem ep_l3expr (k : Int) : EP A n_spec_l3expr [.int .i64 k] = some (.bool (decide (isExpr k))) := by
  simp -implicitDefEqProofs +contextual (disch := omega) only [e_spec_l3expr, u_spec_l3expr, rr_spec_l3expr, ↓XD, XU, ↓reduceIte, sevalprocAttr]
  rw [isExpr, Bool.decide_and]
theorem ep_l3stat (k : Int) : EP A n_spec_l3stat [.int .i64 k] = some (.bool (decide (isStat k))) := by
  simp -implicitDefEqProofs +contextual (disch := omega) only [e_spec_l3stat, u_spec_l3stat, rr_spec_l3stat, ↓XD, XU, ↓reduceIte, sevalprocAttr]
  rw [isStat, Bool.decide_and]
def Exprs (ns : List Node) (a f t : Int) : Prop := ∀ j, f ≤ j → j < t → isExpr (l3kid ns a j)
abbrev s_l3exprs (ns : List Node) (a f t : Int) (b : Bool) (i : Int) : St := ⟨[(0, nodes ns), (1, .int .i64 a), (2, .int .i64 f), (3, .int .i64 t), (8, .bool b), (9, .int .i64 i)], [], [], []⟩
theorem lp_l3exprs (ns : List Node) (a f t : Int) (h0 : 0 ≤ a) (h1 : a < ns.length) (hf : 0 ≤ f) (hft : f ≤ t) (hb : t < 2000000) : EV A (.loop (B_spec_l3exprs 0)) (s_l3exprs ns a f t false f) = some (match seek (fun j => ¬isExpr (l3kid ns a j)) f t with | some j => (.ret, s_l3exprs ns a f t false j) | none => (.exit 0, s_l3exprs ns a f t false t)) := by
  refine loop_search (s_l3exprs ns a f t false) _ _ _ 0 t ?_ ?_ ?_ f hf hft
  · intro i hi hn hp
    simp only [Classical.not_not] at hp
    refine ⟨_, by simp -implicitDefEqProofs +contextual (disch := omega) only [ub_spec_l3exprs_0, rr_spec_l3exprs, s_l3exprs, nodes, ↓XD, XU, ↓reduceIte, sevalprocAttr, ep_l3kid, ep_l3expr, hn, hp]; rfl, ?_⟩
    simp [St.next, trim, bare, refsL, refs]
  · intro i hi hn hp
    refine ⟨by simp -implicitDefEqProofs +contextual (disch := omega) only [ub_spec_l3exprs_0, rr_spec_l3exprs, s_l3exprs, nodes, ↓XD, XU, ↓reduceIte, sevalprocAttr, ep_l3kid, ep_l3expr, hn, hp], by simp⟩
  · rintro i hi rfl
    refine ⟨by simp -implicitDefEqProofs +contextual (disch := omega) only [ub_spec_l3exprs_0, rr_spec_l3exprs, s_l3exprs, nodes, ↓XD, XU, ↓reduceIte, sevalprocAttr, ep_l3kid, ep_l3expr, Int.lt_irrefl], by simp⟩
theorem ep_l3exprs (ns : List Node) (a f t : Int) (h0 : 0 ≤ a) (h1 : a < ns.length) (hf : 0 ≤ f) (hft : f ≤ t) (hb : t < 2000000) : EP A n_spec_l3exprs [nodes ns, .int .i64 a, .int .i64 f, .int .i64 t] = some (.bool (decide (Exprs ns a f t))) := by
  have hl := lp_l3exprs ns a f t h0 h1 hf hft hb
  cases hs : seek (fun j => ¬isExpr (l3kid ns a j)) f t with
  | none =>
    have : Exprs ns a f t := fun j h2 h3 => Classical.not_not.1 (seek_none.1 hs j h2 h3)
    rw [hs] at hl
    simp -implicitDefEqProofs +contextual (disch := omega) only [e_spec_l3exprs, u_spec_l3exprs, rr_spec_l3exprs, nodes, ↓XD, XU, ↓reduceIte, sevalprocAttr, hl, this]
  | some j =>
    obtain ⟨h2, h3, h4, _⟩ := seek_some.1 hs
    have : ¬Exprs ns a f t := fun h => h4 (h j h2 h3)
    rw [hs] at hl
    simp -implicitDefEqProofs +contextual (disch := omega) only [e_spec_l3exprs, u_spec_l3exprs, rr_spec_l3exprs, nodes, ↓XD, XU, ↓reduceIte, sevalprocAttr, hl, this]
end Go.Proofs.Try.Av
end
section
attribute [local congr] ite_congr
set_option maxRecDepth 10000
set_option maxHeartbeats 4000000
namespace Go.Proofs.Try.Av
open Go Go.Av Classical
section
theorem ep_l3target (k : Int) : EP A n_spec_l3target [.int .i64 k] = some (.bool (decide ((k = 26 ∨ k = 27) ∨ k = 33))) := by
  simp -implicitDefEqProofs +contextual (disch := omega) only [e_spec_l3target, u_spec_l3target, rr_spec_l3target, ↓XD, XU, ↓reduceIte, sevalprocAttr]
theorem ep_l3many (k : Int) : EP A n_spec_l3many [.int .i64 k] = some (.bool (decide (k = 34 ∨ k = 37))) := by
  simp -implicitDefEqProofs +contextual (disch := omega) only [e_spec_l3many, u_spec_l3many, rr_spec_l3many, ↓XD, XU, ↓reduceIte, sevalprocAttr]
theorem lp_stat0 (ns : List Node) (a K : Int) (v5 v6 v7 v31 : PV) (H : Heap) (h0 : 0 ≤ a) (h1 : a < ns.length) (hk : K ≤ 1048576) (hk0 : 0 ≤ K) : EV A (.loop (B_zSt 0)) ⟨[(0, nodes ns), (1, .int .i64 a), (4, .bool false), (5, v5), (6, v6), (7, v7), (31, v31), (36, .int .i64 K), (37, .int .i64 (0))], [], H, []⟩ = some (match seek (fun j => ¬isStat (l3kid ns a j)) 0 K with | some j => (AExit.ret, (⟨[(0, nodes ns), (1, .int .i64 a), (4, .bool false), (5, v5), (6, v6), (7, v7), (31, v31), (36, .int .i64 K), (37, .int .i64 j), (8, .int .i64 j)], [], H, []⟩ : St)) | none => (AExit.exit 1, (⟨[(0, nodes ns), (1, .int .i64 a), (4, .bool false), (5, v5), (6, v6), (7, v7), (31, v31), (36, .int .i64 K), (37, .int .i64 (K))], [], H, []⟩ : St))) := by
  refine loop_search (fun i => ⟨[(0, nodes ns), (1, .int .i64 a), (4, .bool false), (5, v5), (6, v6), (7, v7), (31, v31), (36, .int .i64 K), (37, .int .i64 i)], [], H, []⟩) (fun j => ¬isStat (l3kid ns a j)) (fun j => (AExit.ret, (⟨[(0, nodes ns), (1, .int .i64 a), (4, .bool false), (5, v5), (6, v6), (7, v7), (31, v31), (36, .int .i64 K), (37, .int .i64 j), (8, .int .i64 j)], [], H, []⟩ : St))) (AExit.exit 1, (⟨[(0, nodes ns), (1, .int .i64 a), (4, .bool false), (5, v5), (6, v6), (7, v7), (31, v31), (36, .int .i64 K), (37, .int .i64 (K))], [], H, []⟩ : St)) (0) (K) ?_ ?_ ?_ (0) (by omega) (by omega)
  · intro i hi hn hp
    try simp only [Classical.not_not] at hp
    refine ⟨_, by simp -implicitDefEqProofs +contextual (disch := omega) only [ub_zSt_0, rr_zSt, ↓XD, XU, ↓reduceIte, sevalprocAttr, ep_l3kid, ep_l3stat, hn, hp]; rfl, ?_⟩
    first | (simp [St.next, trim_all]; done) | (simp [St.next, trim, bare, refsL, refs, refs]; done)
  · intro i hi hn hp
    refine ⟨by simp -implicitDefEqProofs +contextual (disch := omega) only [ub_zSt_0, rr_zSt, ↓XD, XU, ↓reduceIte, sevalprocAttr, ep_l3kid, ep_l3stat, hn, hp], by simp⟩
  · rintro i hi rfl
    refine ⟨by simp -implicitDefEqProofs +contextual (disch := omega) only [ub_zSt_0, rr_zSt, ↓XD, XU, ↓reduceIte, sevalprocAttr, ep_l3kid, ep_l3stat, Int.lt_irrefl], by simp⟩
theorem lp_stat1 (ns : List Node) (a K nm : Int) (v6 v7 v31 n0 n1 n2 n4 n5 n6 n7 : PV) (h0 : 0 ≤ a) (h1 : a < ns.length) (hk : K ≤ 1048576) (hk0 : 1 ≤ nm) (hnm : nm < K) : EV A (.loop (B_zSt 1)) ⟨[(0, nodes ns), (1, .int .i64 a), (4, .bool false), (5, .ptr 0 0 0 1), (6, v6), (7, v7), (31, v31), (9, .int .i64 (0))], [], [.cells 8 [[n0, n1, n2, .int .i64 nm, n4, n5, n6, n7]]], []⟩ = some (match seek (fun j => ¬((l3kid ns a j = 26 ∨ l3kid ns a j = 27) ∨ l3kid ns a j = 33)) 0 nm with | some j => (AExit.ret, (⟨[(0, nodes ns), (1, .int .i64 a), (4, .bool false), (5, .ptr 0 0 0 1), (6, v6), (7, v7), (31, v31), (9, .int .i64 j)], [], [.cells 8 [[n0, n1, n2, .int .i64 nm, n4, n5, n6, n7]]], []⟩ : St)) | none => (AExit.exit 3, (⟨[(0, nodes ns), (1, .int .i64 a), (4, .bool false), (5, .ptr 0 0 0 1), (6, v6), (7, v7), (31, v31), (9, .int .i64 (nm))], [], [.cells 8 [[n0, n1, n2, .int .i64 nm, n4, n5, n6, n7]]], []⟩ : St))) := by
  refine loop_search (fun i => ⟨[(0, nodes ns), (1, .int .i64 a), (4, .bool false), (5, .ptr 0 0 0 1), (6, v6), (7, v7), (31, v31), (9, .int .i64 i)], [], [.cells 8 [[n0, n1, n2, .int .i64 nm, n4, n5, n6, n7]]], []⟩) (fun j => ¬((l3kid ns a j = 26 ∨ l3kid ns a j = 27) ∨ l3kid ns a j = 33)) (fun j => (AExit.ret, (⟨[(0, nodes ns), (1, .int .i64 a), (4, .bool false), (5, .ptr 0 0 0 1), (6, v6), (7, v7), (31, v31), (9, .int .i64 j)], [], [.cells 8 [[n0, n1, n2, .int .i64 nm, n4, n5, n6, n7]]], []⟩ : St))) (AExit.exit 3, (⟨[(0, nodes ns), (1, .int .i64 a), (4, .bool false), (5, .ptr 0 0 0 1), (6, v6), (7, v7), (31, v31), (9, .int .i64 (nm))], [], [.cells 8 [[n0, n1, n2, .int .i64 nm, n4, n5, n6, n7]]], []⟩ : St)) (0) (nm) ?_ ?_ ?_ (0) (by omega) (by omega)
  · intro i hi hn hp
    try simp only [Classical.not_not] at hp
    refine ⟨_, by simp -implicitDefEqProofs +contextual (disch := omega) only [ub_zSt_1, rr_zSt, ↓XD, XU, ↓reduceIte, sevalprocAttr, ep_l3kid, ep_l3target, hn, hp]; rfl, ?_⟩
    first | (simp [St.next, trim_all]; done) | (simp [St.next, trim, bare, refsL, refs, refs]; done)
  · intro i hi hn hp
    refine ⟨by simp -implicitDefEqProofs +contextual (disch := omega) only [ub_zSt_1, rr_zSt, ↓XD, XU, ↓reduceIte, sevalprocAttr, ep_l3kid, ep_l3target, hn, hp], by simp⟩
  · rintro i hi rfl
    refine ⟨by simp -implicitDefEqProofs +contextual (disch := omega) only [ub_zSt_1, rr_zSt, ↓XD, XU, ↓reduceIte, sevalprocAttr, ep_l3kid, ep_l3target, Int.lt_irrefl], by simp⟩
abbrev BareN (n : Node) (op num flt str : Bool) (rf : Int) : Prop := Bare n.Op n.Num n.Flt n.Str n.Refs.length op num flt str rf
def Stmt (ns : List Node) (a : Int) : Prop :=
  let n := nth ns a
  let k : Int := n.Kids.length
  (n.Kind = 1 ∧ (∀ i, 0 ≤ i → i < k → isStat (l3kid ns a i)) ∧ BareN n false false false false 0) ∨
  (n.Kind = 2 ∧ 0 < (n.Refs.length : Int) ∧ BareN n false false false false n.Refs.length ∧ Exprs ns a 0 k) ∨
  (n.Kind = 3 ∧ 1 ≤ n.Num ∧ n.Num < k ∧ (∀ i, 0 ≤ i → i < n.Num → l3kid ns a i = 26 ∨ l3kid ns a i = 27 ∨ l3kid ns a i = 33) ∧ BareN n false true false false 0 ∧ Exprs ns a n.Num k) ∨
  ((n.Kind = 4 ∨ n.Kind = 14) ∧ k = 1 ∧ l3kid ns a 0 = 34 ∧ BareN n false false false false 0) ∨
  (n.Kind = 5 ∧ (k = 2 ∨ k = 3 ∧ (l3kid ns a 2 = 1 ∨ l3kid ns a 2 = 5)) ∧ Exprs ns a 0 1 ∧ l3kid ns a 1 = 1 ∧ BareN n false false false false 0) ∨
  (n.Kind = 6 ∧ k = 2 ∧ Exprs ns a 0 1 ∧ l3kid ns a 1 = 1 ∧ BareN n false false false false 0) ∨
  (n.Kind = 7 ∧ k = 4 ∧ Exprs ns a 0 3 ∧ l3kid ns a 3 = 1 ∧ BareN n false false false false 1) ∨
  (n.Kind = 8 ∧ k = 2 ∧ 1 ≤ (n.Refs.length : Int) ∧ (n.Refs.length : Int) ≤ 4 ∧ Exprs ns a 0 1 ∧ l3kid ns a 1 = 1 ∧ BareN n false false false false n.Refs.length) ∨
  ((n.Kind = 9 ∨ n.Kind = 10) ∧ k = 0 ∧ BareN n false false false false 0) ∨
  (n.Kind = 11 ∧ Exprs ns a 0 k ∧ BareN n false false false false 0) ∨
  (n.Kind = 12 ∧ k = 2 ∧ l3kid ns a 0 = 1 ∧ l3kid ns a 1 = 1 ∧ BareN n false false false false 2) ∨
  (n.Kind = 13 ∧ k = 1 ∧ Exprs ns a 0 1 ∧ BareN n false false false false 0)
section
variable (ns : List Node) (a : Int) (h0 : 0 ≤ a) (h1 : a < ns.length) (hk : (nth ns a).Kids.length ≤ 1048576)
include h0 h1 hk
theorem st_1 (hK : (nth ns a).Kind = 1) : EP A n_zSt [nodes ns, .int .i64 a] = some (.bool (decide (Stmt ns a))) := by
  have hl := fun v5 v6 v7 v31 H => lp_stat0 ns a (nth ns a).Kids.length v5 v6 v7 v31 H h0 h1 (by omega) (by omega)
  cases hs : seek (fun j => ¬isStat (l3kid ns a j)) 0 (nth ns a).Kids.length with
  | none =>
    have hq : ∀ i, 0 ≤ i → i < ((nth ns a).Kids.length : Int) → isStat (l3kid ns a i) := fun j h2 h3 => Classical.not_not.1 (seek_none.1 hs j h2 h3)
    simp only [hs] at hl
    simp -implicitDefEqProofs +contextual (disch := omega) only [e_zSt, u_zSt, rr_zSt, hK, nodes, ints, Node.cells, ↓XD, XU, ↓reduceIte, sevalprocAttr, ep_l3kid, ep_l3expr, ep_l3stat, ep_l3bare, ep_l3target, ep_l3exprs, hl]
    congr 2; rw [Bool.eq_iff_iff]; simp [Stmt, hK, and_assoc]; exact fun _ => hq
  | some j =>
    obtain ⟨h2, h3, h4, _⟩ := seek_some.1 hs
    have hq : ¬∀ i, 0 ≤ i → i < ((nth ns a).Kids.length : Int) → isStat (l3kid ns a i) := fun h => h4 (h j h2 h3)
    simp only [hs] at hl
    simp -implicitDefEqProofs +contextual (disch := omega) only [e_zSt, u_zSt, rr_zSt, hK, nodes, ints, Node.cells, ↓XD, XU, ↓reduceIte, sevalprocAttr, ep_l3kid, ep_l3expr, ep_l3stat, ep_l3bare, ep_l3target, ep_l3exprs, hl]
    congr 2; rw [Bool.eq_iff_iff]; simp [Stmt, hK, and_assoc]; exact fun h => absurd h hq
theorem st_3 (hK : (nth ns a).Kind = 3) : EP A n_zSt [nodes ns, .int .i64 a] = some (.bool (decide (Stmt ns a))) := by
  by_cases hn : 1 ≤ (nth ns a).Num ∧ (nth ns a).Num < (nth ns a).Kids.length
  · have hl := fun v6 v7 v31 n0 n1 n2 n4 n5 n6 n7 => lp_stat1 ns a (nth ns a).Kids.length (nth ns a).Num v6 v7 v31 n0 n1 n2 n4 n5 n6 n7 h0 h1 (by omega) hn.1 hn.2
    have hn1 : ¬(nth ns a).Num < 1 := by omega
    have hn2 : ¬((nth ns a).Kids.length : Int) ≤ (nth ns a).Num := by omega
    cases hs : seek (fun j => ¬((l3kid ns a j = 26 ∨ l3kid ns a j = 27) ∨ l3kid ns a j = 33)) 0 (nth ns a).Num with
    | none =>
      have hq : ∀ i, 0 ≤ i → i < (nth ns a).Num → l3kid ns a i = 26 ∨ l3kid ns a i = 27 ∨ l3kid ns a i = 33 := fun j h2 h3 => or_assoc.1 (Classical.not_not.1 (seek_none.1 hs j h2 h3))
      simp only [hs] at hl
      simp -implicitDefEqProofs +contextual (disch := omega) only [e_zSt, u_zSt, rr_zSt, hK, nodes, ints, Node.cells, ↓XD, XU, ↓reduceIte, sevalprocAttr, ep_l3kid, ep_l3expr, ep_l3stat, ep_l3bare, ep_l3target, ep_l3exprs, hl, hn1, hn2]
      congr 2; rw [Bool.eq_iff_iff]; simp [Stmt, hK, and_assoc, hn.1, hn.2]; exact fun _ _ => hq
    | some j =>
      obtain ⟨h2, h3, h4, _⟩ := seek_some.1 hs
      have hq : ¬∀ i, 0 ≤ i → i < (nth ns a).Num → l3kid ns a i = 26 ∨ l3kid ns a i = 27 ∨ l3kid ns a i = 33 := fun h => h4 (or_assoc.2 (h j h2 h3))
      simp only [hs] at hl
      simp -implicitDefEqProofs +contextual (disch := omega) only [e_zSt, u_zSt, rr_zSt, hK, nodes, ints, Node.cells, ↓XD, XU, ↓reduceIte, sevalprocAttr, ep_l3kid, ep_l3expr, ep_l3stat, ep_l3bare, ep_l3target, ep_l3exprs, hl, hn1, hn2]
      congr 2; rw [Bool.eq_iff_iff]; simp [Stmt, hK, and_assoc, hn.1, hn.2]; exact fun h => absurd h hq
  · have hn' : (nth ns a).Num < 1 ∨ ((nth ns a).Kids.length : Int) ≤ (nth ns a).Num := by omega
    simp -implicitDefEqProofs +contextual (disch := omega) only [e_zSt, u_zSt, rr_zSt, hK, nodes, ints, Node.cells, ↓XD, XU, ↓reduceIte, sevalprocAttr, ep_l3kid, ep_l3expr, ep_l3stat, ep_l3bare, ep_l3target, ep_l3exprs, hn']
    congr 2; rw [Bool.eq_iff_iff]; simp [Stmt, hK, and_assoc]; intros; omega
theorem st_2 (hK : (nth ns a).Kind = 2) : EP A n_zSt [nodes ns, .int .i64 a] = some (.bool (decide (Stmt ns a))) := by
  simp -implicitDefEqProofs +contextual (disch := omega) only [e_zSt, u_zSt, rr_zSt, hK, nodes, ints, Node.cells, ↓XD, XU, ↓reduceIte, sevalprocAttr, ep_l3kid, ep_l3expr, ep_l3stat, ep_l3bare, ep_l3target, ep_l3exprs]
  congr 2; rw [Bool.eq_iff_iff]; simp [Stmt, hK, and_assoc]
theorem st_4 (hK : (nth ns a).Kind = 4) : EP A n_zSt [nodes ns, .int .i64 a] = some (.bool (decide (Stmt ns a))) := by
  simp -implicitDefEqProofs +contextual (disch := omega) only [e_zSt, u_zSt, rr_zSt, hK, nodes, ints, Node.cells, ↓XD, XU, ↓reduceIte, sevalprocAttr, ep_l3kid, ep_l3expr, ep_l3stat, ep_l3bare, ep_l3target, ep_l3exprs]
  congr 2; rw [Bool.eq_iff_iff]; simp [Stmt, hK, and_assoc]
theorem st_5 (hK : (nth ns a).Kind = 5) : EP A n_zSt [nodes ns, .int .i64 a] = some (.bool (decide (Stmt ns a))) := by
  simp -implicitDefEqProofs +contextual (disch := omega) only [e_zSt, u_zSt, rr_zSt, hK, nodes, ints, Node.cells, ↓XD, XU, ↓reduceIte, sevalprocAttr, ep_l3kid, ep_l3expr, ep_l3stat, ep_l3bare, ep_l3target, ep_l3exprs]
  congr 2; rw [Bool.eq_iff_iff]; simp [Stmt, hK, and_assoc]
theorem st_6 (hK : (nth ns a).Kind = 6) : EP A n_zSt [nodes ns, .int .i64 a] = some (.bool (decide (Stmt ns a))) := by
  simp -implicitDefEqProofs +contextual (disch := omega) only [e_zSt, u_zSt, rr_zSt, hK, nodes, ints, Node.cells, ↓XD, XU, ↓reduceIte, sevalprocAttr, ep_l3kid, ep_l3expr, ep_l3stat, ep_l3bare, ep_l3target, ep_l3exprs]
  congr 2; rw [Bool.eq_iff_iff]; simp [Stmt, hK, and_assoc]
theorem st_7 (hK : (nth ns a).Kind = 7) : EP A n_zSt [nodes ns, .int .i64 a] = some (.bool (decide (Stmt ns a))) := by
  simp -implicitDefEqProofs +contextual (disch := omega) only [e_zSt, u_zSt, rr_zSt, hK, nodes, ints, Node.cells, ↓XD, XU, ↓reduceIte, sevalprocAttr, ep_l3kid, ep_l3expr, ep_l3stat, ep_l3bare, ep_l3target, ep_l3exprs]
  congr 2; rw [Bool.eq_iff_iff]; simp [Stmt, hK, and_assoc]
theorem st_8 (hK : (nth ns a).Kind = 8) : EP A n_zSt [nodes ns, .int .i64 a] = some (.bool (decide (Stmt ns a))) := by
  simp -implicitDefEqProofs +contextual (disch := omega) only [e_zSt, u_zSt, rr_zSt, hK, nodes, ints, Node.cells, ↓XD, XU, ↓reduceIte, sevalprocAttr, ep_l3kid, ep_l3expr, ep_l3stat, ep_l3bare, ep_l3target, ep_l3exprs]
  congr 2; rw [Bool.eq_iff_iff]; simp [Stmt, hK, and_assoc]
theorem st_9 (hK : (nth ns a).Kind = 9) : EP A n_zSt [nodes ns, .int .i64 a] = some (.bool (decide (Stmt ns a))) := by
  simp -implicitDefEqProofs +contextual (disch := omega) only [e_zSt, u_zSt, rr_zSt, hK, nodes, ints, Node.cells, ↓XD, XU, ↓reduceIte, sevalprocAttr, ep_l3kid, ep_l3expr, ep_l3stat, ep_l3bare, ep_l3target, ep_l3exprs]
  congr 2; rw [Bool.eq_iff_iff]; simp [Stmt, hK, and_assoc]
theorem st_10 (hK : (nth ns a).Kind = 10) : EP A n_zSt [nodes ns, .int .i64 a] = some (.bool (decide (Stmt ns a))) := by
  simp -implicitDefEqProofs +contextual (disch := omega) only [e_zSt, u_zSt, rr_zSt, hK, nodes, ints, Node.cells, ↓XD, XU, ↓reduceIte, sevalprocAttr, ep_l3kid, ep_l3expr, ep_l3stat, ep_l3bare, ep_l3target, ep_l3exprs]
  congr 2; rw [Bool.eq_iff_iff]; simp [Stmt, hK, and_assoc]
theorem st_11 (hK : (nth ns a).Kind = 11) : EP A n_zSt [nodes ns, .int .i64 a] = some (.bool (decide (Stmt ns a))) := by
  simp -implicitDefEqProofs +contextual (disch := omega) only [e_zSt, u_zSt, rr_zSt, hK, nodes, ints, Node.cells, ↓XD, XU, ↓reduceIte, sevalprocAttr, ep_l3kid, ep_l3expr, ep_l3stat, ep_l3bare, ep_l3target, ep_l3exprs]
  congr 2; rw [Bool.eq_iff_iff]; simp [Stmt, hK, and_assoc]
theorem st_12 (hK : (nth ns a).Kind = 12) : EP A n_zSt [nodes ns, .int .i64 a] = some (.bool (decide (Stmt ns a))) := by
  simp -implicitDefEqProofs +contextual (disch := omega) only [e_zSt, u_zSt, rr_zSt, hK, nodes, ints, Node.cells, ↓XD, XU, ↓reduceIte, sevalprocAttr, ep_l3kid, ep_l3expr, ep_l3stat, ep_l3bare, ep_l3target, ep_l3exprs]
  congr 2; rw [Bool.eq_iff_iff]; simp [Stmt, hK, and_assoc]
theorem st_13 (hK : (nth ns a).Kind = 13) : EP A n_zSt [nodes ns, .int .i64 a] = some (.bool (decide (Stmt ns a))) := by
  simp -implicitDefEqProofs +contextual (disch := omega) only [e_zSt, u_zSt, rr_zSt, hK, nodes, ints, Node.cells, ↓XD, XU, ↓reduceIte, sevalprocAttr, ep_l3kid, ep_l3expr, ep_l3stat, ep_l3bare, ep_l3target, ep_l3exprs]
  congr 2; rw [Bool.eq_iff_iff]; simp [Stmt, hK, and_assoc]
theorem st_14 (hK : (nth ns a).Kind = 14) : EP A n_zSt [nodes ns, .int .i64 a] = some (.bool (decide (Stmt ns a))) := by
  simp -implicitDefEqProofs +contextual (disch := omega) only [e_zSt, u_zSt, rr_zSt, hK, nodes, ints, Node.cells, ↓XD, XU, ↓reduceIte, sevalprocAttr, ep_l3kid, ep_l3expr, ep_l3stat, ep_l3bare, ep_l3target, ep_l3exprs]
  congr 2; rw [Bool.eq_iff_iff]; simp [Stmt, hK, and_assoc]
theorem ep_l3statement : EP A n_zSt [nodes ns, .int .i64 a] = some (.bool (decide (Stmt ns a))) := by
  by_cases h101 : (nth ns a).Kind = 1
  · exact st_1 ns a h0 h1 hk h101
  by_cases h102 : (nth ns a).Kind = 2
  · exact st_2 ns a h0 h1 hk h102
  by_cases h103 : (nth ns a).Kind = 3
  · exact st_3 ns a h0 h1 hk h103
  by_cases h104 : (nth ns a).Kind = 4
  · exact st_4 ns a h0 h1 hk h104
  by_cases h105 : (nth ns a).Kind = 5
  · exact st_5 ns a h0 h1 hk h105
  by_cases h106 : (nth ns a).Kind = 6
  · exact st_6 ns a h0 h1 hk h106
  by_cases h107 : (nth ns a).Kind = 7
  · exact st_7 ns a h0 h1 hk h107
  by_cases h108 : (nth ns a).Kind = 8
  · exact st_8 ns a h0 h1 hk h108
  by_cases h109 : (nth ns a).Kind = 9
  · exact st_9 ns a h0 h1 hk h109
  by_cases h110 : (nth ns a).Kind = 10
  · exact st_10 ns a h0 h1 hk h110
  by_cases h111 : (nth ns a).Kind = 11
  · exact st_11 ns a h0 h1 hk h111
  by_cases h112 : (nth ns a).Kind = 12
  · exact st_12 ns a h0 h1 hk h112
  by_cases h113 : (nth ns a).Kind = 13
  · exact st_13 ns a h0 h1 hk h113
  by_cases h114 : (nth ns a).Kind = 14
  · exact st_14 ns a h0 h1 hk h114
  simp -implicitDefEqProofs +contextual (disch := omega) only [e_zSt, u_zSt, rr_zSt, h101, h102, h103, h104, h105, h106, h107, h108, h109, h110, h111, h112, h113, h114, nodes, ints, Node.cells, ↓XD, XU, ↓reduceIte, sevalprocAttr, ep_l3kid, ep_l3expr, ep_l3stat, ep_l3bare, ep_l3target, ep_l3exprs]
  congr 2; rw [Bool.eq_iff_iff]; simp [Stmt, h101, h102, h103, h104, h105, h106, h107, h108, h109, h110, h111, h112, h113, h114]
end
end
section
def Expr (ns : List Node) (a : Int) : Prop :=
  let n := nth ns a
  let k : Int := n.Kids.length
  ((n.Kind = 20 ∨ n.Kind = 21 ∨ n.Kind = 22 ∨ n.Kind = 37) ∧ k = 0 ∧ BareN n false false false false 0) ∨
  (n.Kind = 23 ∧ k = 0 ∧ BareN n false true false false 0) ∨
  (n.Kind = 24 ∧ k = 0 ∧ FloatKind.f64.format.order n.Flt n.Flt = some .eq ∧ BareN n false false true false 0) ∨
  (n.Kind = 25 ∧ k = 0 ∧ (n.Str.size : Int) ≤ 4000 ∧ BareN n false false false true 0) ∨
  ((n.Kind = 26 ∨ n.Kind = 27 ∨ n.Kind = 36) ∧ k = 0 ∧ BareN n false false false false 1) ∨
  (n.Kind = 28 ∧ k = 0 ∧ 0 ≤ n.Num ∧ n.Num < 15 ∧ BareN n false true false false 0) ∨
  ((n.Kind = 29 ∨ n.Kind = 30 ∨ n.Kind = 33) ∧ k = 2 ∧ Exprs ns a 0 2 ∧ BareN n false false false false 0) ∨
  (n.Kind = 31 ∧ k = 1 ∧ Exprs ns a 0 1 ∧ 19 ≤ n.Op ∧ n.Op ≤ 22 ∧ BareN n true false false false 0) ∨
  (n.Kind = 32 ∧ k = 2 ∧ Exprs ns a 0 2 ∧ 1 ≤ n.Op ∧ n.Op ≤ 18 ∧ BareN n true false false false 0) ∨
  (n.Kind = 34 ∧ 1 ≤ k ∧ Exprs ns a 0 k ∧ BareN n false false false false 0) ∨
  (n.Kind = 35 ∧ k.tmod 2 = 0 ∧ Exprs ns a 0 k ∧ (n.Op = 0 ∨ n.Op = 1 ∧ 2 ≤ k ∧ l3kid ns a (k - 2) = 23 ∧ (l3kid ns a (k - 1) = 34 ∨ l3kid ns a (k - 1) = 37)) ∧ BareN n true false false false 0) ∨
  (n.Kind = 38 ∧ k = 1 ∧ (l3kid ns a 0 = 34 ∨ l3kid ns a 0 = 37) ∧ BareN n false false false false 0)
section
variable (ns : List Node) (a : Int) (h0 : 0 ≤ a) (h1 : a < ns.length) (hk : (nth ns a).Kids.length ≤ 1048576)
include h0 h1 hk
theorem ex_20 (hK : (nth ns a).Kind = 20) : EP A n_zEx [nodes ns, .int .i64 a] = some (.bool (decide (Expr ns a))) := by
  simp -implicitDefEqProofs +contextual (disch := omega) only [e_zEx, u_zEx, rr_zEx, hK, nodes, ints, Node.cells, ↓XD, XU, ↓reduceIte, sevalprocAttr, ep_l3kid, ep_l3expr, ep_l3stat, ep_l3bare, ep_l3target, ep_l3exprs, ep_l3many]
  congr 2; rw [Bool.eq_iff_iff]; simp [Expr, hK, and_assoc]
theorem ex_21 (hK : (nth ns a).Kind = 21) : EP A n_zEx [nodes ns, .int .i64 a] = some (.bool (decide (Expr ns a))) := by
  simp -implicitDefEqProofs +contextual (disch := omega) only [e_zEx, u_zEx, rr_zEx, hK, nodes, ints, Node.cells, ↓XD, XU, ↓reduceIte, sevalprocAttr, ep_l3kid, ep_l3expr, ep_l3stat, ep_l3bare, ep_l3target, ep_l3exprs, ep_l3many]
  congr 2; rw [Bool.eq_iff_iff]; simp [Expr, hK, and_assoc]
theorem ex_22 (hK : (nth ns a).Kind = 22) : EP A n_zEx [nodes ns, .int .i64 a] = some (.bool (decide (Expr ns a))) := by
  simp -implicitDefEqProofs +contextual (disch := omega) only [e_zEx, u_zEx, rr_zEx, hK, nodes, ints, Node.cells, ↓XD, XU, ↓reduceIte, sevalprocAttr, ep_l3kid, ep_l3expr, ep_l3stat, ep_l3bare, ep_l3target, ep_l3exprs, ep_l3many]
  congr 2; rw [Bool.eq_iff_iff]; simp [Expr, hK, and_assoc]
theorem ex_23 (hK : (nth ns a).Kind = 23) : EP A n_zEx [nodes ns, .int .i64 a] = some (.bool (decide (Expr ns a))) := by
  simp -implicitDefEqProofs +contextual (disch := omega) only [e_zEx, u_zEx, rr_zEx, hK, nodes, ints, Node.cells, ↓XD, XU, ↓reduceIte, sevalprocAttr, ep_l3kid, ep_l3expr, ep_l3stat, ep_l3bare, ep_l3target, ep_l3exprs, ep_l3many]
  congr 2; rw [Bool.eq_iff_iff]; simp [Expr, hK, and_assoc]
theorem ex_24 (hK : (nth ns a).Kind = 24) : EP A n_zEx [nodes ns, .int .i64 a] = some (.bool (decide (Expr ns a))) := by
  simp -implicitDefEqProofs +contextual (disch := omega) only [e_zEx, u_zEx, rr_zEx, hK, nodes, ints, Node.cells, ↓XD, XU, ↓reduceIte, sevalprocAttr, ep_l3kid, ep_l3expr, ep_l3stat, ep_l3bare, ep_l3target, ep_l3exprs, ep_l3many]
  congr 2; rw [Bool.eq_iff_iff]; simp [Expr, hK, and_assoc]
theorem ex_25 (hK : (nth ns a).Kind = 25) : EP A n_zEx [nodes ns, .int .i64 a] = some (.bool (decide (Expr ns a))) := by
  simp -implicitDefEqProofs +contextual (disch := omega) only [e_zEx, u_zEx, rr_zEx, hK, nodes, ints, Node.cells, ↓XD, XU, ↓reduceIte, sevalprocAttr, ep_l3kid, ep_l3expr, ep_l3stat, ep_l3bare, ep_l3target, ep_l3exprs, ep_l3many]
  congr 2; rw [Bool.eq_iff_iff]; simp [Expr, hK, and_assoc]
theorem ex_26 (hK : (nth ns a).Kind = 26) : EP A n_zEx [nodes ns, .int .i64 a] = some (.bool (decide (Expr ns a))) := by
  simp -implicitDefEqProofs +contextual (disch := omega) only [e_zEx, u_zEx, rr_zEx, hK, nodes, ints, Node.cells, ↓XD, XU, ↓reduceIte, sevalprocAttr, ep_l3kid, ep_l3expr, ep_l3stat, ep_l3bare, ep_l3target, ep_l3exprs, ep_l3many]
  congr 2; rw [Bool.eq_iff_iff]; simp [Expr, hK, and_assoc]
theorem ex_27 (hK : (nth ns a).Kind = 27) : EP A n_zEx [nodes ns, .int .i64 a] = some (.bool (decide (Expr ns a))) := by
  simp -implicitDefEqProofs +contextual (disch := omega) only [e_zEx, u_zEx, rr_zEx, hK, nodes, ints, Node.cells, ↓XD, XU, ↓reduceIte, sevalprocAttr, ep_l3kid, ep_l3expr, ep_l3stat, ep_l3bare, ep_l3target, ep_l3exprs, ep_l3many]
  congr 2; rw [Bool.eq_iff_iff]; simp [Expr, hK, and_assoc]
theorem ex_28 (hK : (nth ns a).Kind = 28) : EP A n_zEx [nodes ns, .int .i64 a] = some (.bool (decide (Expr ns a))) := by
  simp -implicitDefEqProofs +contextual (disch := omega) only [e_zEx, u_zEx, rr_zEx, hK, nodes, ints, Node.cells, ↓XD, XU, ↓reduceIte, sevalprocAttr, ep_l3kid, ep_l3expr, ep_l3stat, ep_l3bare, ep_l3target, ep_l3exprs, ep_l3many]
  congr 2; rw [Bool.eq_iff_iff]; simp [Expr, hK, and_assoc]
theorem ex_29 (hK : (nth ns a).Kind = 29) : EP A n_zEx [nodes ns, .int .i64 a] = some (.bool (decide (Expr ns a))) := by
  simp -implicitDefEqProofs +contextual (disch := omega) only [e_zEx, u_zEx, rr_zEx, hK, nodes, ints, Node.cells, ↓XD, XU, ↓reduceIte, sevalprocAttr, ep_l3kid, ep_l3expr, ep_l3stat, ep_l3bare, ep_l3target, ep_l3exprs, ep_l3many]
  congr 2; rw [Bool.eq_iff_iff]; simp [Expr, hK, and_assoc]
theorem ex_30 (hK : (nth ns a).Kind = 30) : EP A n_zEx [nodes ns, .int .i64 a] = some (.bool (decide (Expr ns a))) := by
  simp -implicitDefEqProofs +contextual (disch := omega) only [e_zEx, u_zEx, rr_zEx, hK, nodes, ints, Node.cells, ↓XD, XU, ↓reduceIte, sevalprocAttr, ep_l3kid, ep_l3expr, ep_l3stat, ep_l3bare, ep_l3target, ep_l3exprs, ep_l3many]
  congr 2; rw [Bool.eq_iff_iff]; simp [Expr, hK, and_assoc]
theorem ex_31 (hK : (nth ns a).Kind = 31) : EP A n_zEx [nodes ns, .int .i64 a] = some (.bool (decide (Expr ns a))) := by
  simp -implicitDefEqProofs +contextual (disch := omega) only [e_zEx, u_zEx, rr_zEx, hK, nodes, ints, Node.cells, ↓XD, XU, ↓reduceIte, sevalprocAttr, ep_l3kid, ep_l3expr, ep_l3stat, ep_l3bare, ep_l3target, ep_l3exprs, ep_l3many]
  congr 2; rw [Bool.eq_iff_iff]; simp [Expr, hK, and_assoc]
theorem ex_32 (hK : (nth ns a).Kind = 32) : EP A n_zEx [nodes ns, .int .i64 a] = some (.bool (decide (Expr ns a))) := by
  simp -implicitDefEqProofs +contextual (disch := omega) only [e_zEx, u_zEx, rr_zEx, hK, nodes, ints, Node.cells, ↓XD, XU, ↓reduceIte, sevalprocAttr, ep_l3kid, ep_l3expr, ep_l3stat, ep_l3bare, ep_l3target, ep_l3exprs, ep_l3many]
  congr 2; rw [Bool.eq_iff_iff]; simp [Expr, hK, and_assoc]
theorem ex_33 (hK : (nth ns a).Kind = 33) : EP A n_zEx [nodes ns, .int .i64 a] = some (.bool (decide (Expr ns a))) := by
  simp -implicitDefEqProofs +contextual (disch := omega) only [e_zEx, u_zEx, rr_zEx, hK, nodes, ints, Node.cells, ↓XD, XU, ↓reduceIte, sevalprocAttr, ep_l3kid, ep_l3expr, ep_l3stat, ep_l3bare, ep_l3target, ep_l3exprs, ep_l3many]
  congr 2; rw [Bool.eq_iff_iff]; simp [Expr, hK, and_assoc]
theorem ex_34 (hK : (nth ns a).Kind = 34) : EP A n_zEx [nodes ns, .int .i64 a] = some (.bool (decide (Expr ns a))) := by
  simp -implicitDefEqProofs +contextual (disch := omega) only [e_zEx, u_zEx, rr_zEx, hK, nodes, ints, Node.cells, ↓XD, XU, ↓reduceIte, sevalprocAttr, ep_l3kid, ep_l3expr, ep_l3stat, ep_l3bare, ep_l3target, ep_l3exprs, ep_l3many]
  congr 2; rw [Bool.eq_iff_iff]; simp [Expr, hK, and_assoc]
theorem ex_35 (hK : (nth ns a).Kind = 35) : EP A n_zEx [nodes ns, .int .i64 a] = some (.bool (decide (Expr ns a))) := by
  simp -implicitDefEqProofs +contextual (disch := omega) only [e_zEx, u_zEx, rr_zEx, hK, nodes, ints, Node.cells, ↓XD, XU, ↓reduceIte, sevalprocAttr, ep_l3kid, ep_l3expr, ep_l3stat, ep_l3bare, ep_l3target, ep_l3exprs, ep_l3many]
  congr 2; rw [Bool.eq_iff_iff]; simp [Expr, hK, and_assoc]
theorem ex_36 (hK : (nth ns a).Kind = 36) : EP A n_zEx [nodes ns, .int .i64 a] = some (.bool (decide (Expr ns a))) := by
  simp -implicitDefEqProofs +contextual (disch := omega) only [e_zEx, u_zEx, rr_zEx, hK, nodes, ints, Node.cells, ↓XD, XU, ↓reduceIte, sevalprocAttr, ep_l3kid, ep_l3expr, ep_l3stat, ep_l3bare, ep_l3target, ep_l3exprs, ep_l3many]
  congr 2; rw [Bool.eq_iff_iff]; simp [Expr, hK, and_assoc]
theorem ex_37 (hK : (nth ns a).Kind = 37) : EP A n_zEx [nodes ns, .int .i64 a] = some (.bool (decide (Expr ns a))) := by
  simp -implicitDefEqProofs +contextual (disch := omega) only [e_zEx, u_zEx, rr_zEx, hK, nodes, ints, Node.cells, ↓XD, XU, ↓reduceIte, sevalprocAttr, ep_l3kid, ep_l3expr, ep_l3stat, ep_l3bare, ep_l3target, ep_l3exprs, ep_l3many]
  congr 2; rw [Bool.eq_iff_iff]; simp [Expr, hK, and_assoc]
theorem ex_38 (hK : (nth ns a).Kind = 38) : EP A n_zEx [nodes ns, .int .i64 a] = some (.bool (decide (Expr ns a))) := by
  simp -implicitDefEqProofs +contextual (disch := omega) only [e_zEx, u_zEx, rr_zEx, hK, nodes, ints, Node.cells, ↓XD, XU, ↓reduceIte, sevalprocAttr, ep_l3kid, ep_l3expr, ep_l3stat, ep_l3bare, ep_l3target, ep_l3exprs, ep_l3many]
  congr 2; rw [Bool.eq_iff_iff]; simp [Expr, hK, and_assoc]
theorem ep_l3expression : EP A n_zEx [nodes ns, .int .i64 a] = some (.bool (decide (Expr ns a))) := by
  by_cases h120 : (nth ns a).Kind = 20
  · exact ex_20 ns a h0 h1 hk h120
  by_cases h121 : (nth ns a).Kind = 21
  · exact ex_21 ns a h0 h1 hk h121
  by_cases h122 : (nth ns a).Kind = 22
  · exact ex_22 ns a h0 h1 hk h122
  by_cases h123 : (nth ns a).Kind = 23
  · exact ex_23 ns a h0 h1 hk h123
  by_cases h124 : (nth ns a).Kind = 24
  · exact ex_24 ns a h0 h1 hk h124
  by_cases h125 : (nth ns a).Kind = 25
  · exact ex_25 ns a h0 h1 hk h125
  by_cases h126 : (nth ns a).Kind = 26
  · exact ex_26 ns a h0 h1 hk h126
  by_cases h127 : (nth ns a).Kind = 27
  · exact ex_27 ns a h0 h1 hk h127
  by_cases h128 : (nth ns a).Kind = 28
  · exact ex_28 ns a h0 h1 hk h128
  by_cases h129 : (nth ns a).Kind = 29
  · exact ex_29 ns a h0 h1 hk h129
  by_cases h130 : (nth ns a).Kind = 30
  · exact ex_30 ns a h0 h1 hk h130
  by_cases h131 : (nth ns a).Kind = 31
  · exact ex_31 ns a h0 h1 hk h131
  by_cases h132 : (nth ns a).Kind = 32
  · exact ex_32 ns a h0 h1 hk h132
  by_cases h133 : (nth ns a).Kind = 33
  · exact ex_33 ns a h0 h1 hk h133
  by_cases h134 : (nth ns a).Kind = 34
  · exact ex_34 ns a h0 h1 hk h134
  by_cases h135 : (nth ns a).Kind = 35
  · exact ex_35 ns a h0 h1 hk h135
  by_cases h136 : (nth ns a).Kind = 36
  · exact ex_36 ns a h0 h1 hk h136
  by_cases h137 : (nth ns a).Kind = 37
  · exact ex_37 ns a h0 h1 hk h137
  by_cases h138 : (nth ns a).Kind = 38
  · exact ex_38 ns a h0 h1 hk h138
  simp -implicitDefEqProofs +contextual (disch := omega) only [e_zEx, u_zEx, rr_zEx, h120, h121, h122, h123, h124, h125, h126, h127, h128, h129, h130, h131, h132, h133, h134, h135, h136, h137, h138, nodes, ints, Node.cells, ↓XD, XU, ↓reduceIte, sevalprocAttr, ep_l3kid, ep_l3expr, ep_l3stat, ep_l3bare, ep_l3target, ep_l3exprs, ep_l3many]
  congr 2; rw [Bool.eq_iff_iff]; simp [Expr, h120, h121, h122, h123, h124, h125, h126, h127, h128, h129, h130, h131, h132, h133, h134, h135, h136, h137, h138]
end
end
structure Up where
  Local : Bool
  Index : Int
  deriving Inhabited
structure Fn where
  Name : ByteArray
  Line : Int
  Params : Int
  Rest : Bool
  Vars : List ByteArray
  Ups : List Up
  Nodes : List Node
  deriving Inhabited
abbrev strs (l : List ByteArray) : PV := .fz (l.map fun s => [.str s])
abbrev Up.cells (u : Up) : List PV := [.bool u.Local, .int .i64 u.Index]
abbrev ups (l : List Up) : PV := .fz (l.map Up.cells)
abbrev Fn.cells (f : Fn) : List PV := [.str f.Name, .int .i64 f.Line, .int .i64 f.Params, .bool f.Rest, strs f.Vars, ups f.Ups, nodes f.Nodes]
abbrev fns (l : List Fn) : PV := .fz (l.map Fn.cells)
abbrev unit (l : List Fn) : PV := .agg [fns l]
theorem lp_place (l : List Int) (x : Int) (hb : l.length ≤ 1048576) : EV A (.loop (B_spec_l3place 0)) ⟨[(0, ints l), (1, .int .i64 x), (4, .int .i64 0), (7, ints l), (8, .int .i64 l.length), (9, .int .i64 (0))], [], [], []⟩ = some (match seek (fun j => nth l j = x) 0 l.length with | some j => (AExit.ret, (⟨[(0, ints l), (1, .int .i64 x), (4, .int .i64 j), (7, ints l), (8, .int .i64 l.length), (9, .int .i64 j), (5, .int .i64 j), (6, .int .i64 x)], [], [], []⟩ : St)) | none => (AExit.exit 0, (⟨[(0, ints l), (1, .int .i64 x), (4, .int .i64 0), (7, ints l), (8, .int .i64 l.length), (9, .int .i64 (l.length))], [], [], []⟩ : St))) := by
  refine loop_search (fun i => ⟨[(0, ints l), (1, .int .i64 x), (4, .int .i64 0), (7, ints l), (8, .int .i64 l.length), (9, .int .i64 i)], [], [], []⟩) (fun j => nth l j = x) (fun j => (AExit.ret, (⟨[(0, ints l), (1, .int .i64 x), (4, .int .i64 j), (7, ints l), (8, .int .i64 l.length), (9, .int .i64 j), (5, .int .i64 j), (6, .int .i64 x)], [], [], []⟩ : St))) (AExit.exit 0, (⟨[(0, ints l), (1, .int .i64 x), (4, .int .i64 0), (7, ints l), (8, .int .i64 l.length), (9, .int .i64 (l.length))], [], [], []⟩ : St)) (0) (l.length) ?_ ?_ ?_ (0) (by omega) (by omega)
  · intro i hi hn hp
    try simp only [Classical.not_not] at hp
    refine ⟨_, by simp -implicitDefEqProofs +contextual (disch := omega) only [ub_spec_l3place_0, rr_spec_l3place, ↓XD, XU, ↓reduceIte, sevalprocAttr, ints, hn, hp]; rfl, ?_⟩
    first | (simp [St.next, trim_all]; done) | (simp [St.next, trim, bare, refsL, refs, refs]; done)
  · intro i hi hn hp
    refine ⟨by simp -implicitDefEqProofs +contextual (disch := omega) only [ub_spec_l3place_0, rr_spec_l3place, ↓XD, XU, ↓reduceIte, sevalprocAttr, ints, hn, hp], by simp⟩
  · rintro i hi rfl
    refine ⟨by simp -implicitDefEqProofs +contextual (disch := omega) only [ub_spec_l3place_0, rr_spec_l3place, ↓XD, XU, ↓reduceIte, sevalprocAttr, ints, Int.lt_irrefl], by simp⟩
noncomputable def place (l : List Int) (x : Int) : Int := match seek (fun j => nth l j = x) 0 l.length with | some j => j | none => -1
theorem ep_l3place (l : List Int) (x : Int) (hb : l.length ≤ 1048576) : EP A n_spec_l3place [ints l, .int .i64 x] = some (.int .i64 (place l x)) := by
  have hl := lp_place l x hb
  rw [place]
  cases hs : seek (fun j => nth l j = x) 0 l.length with
  | none =>
    simp only [hs] at hl
    simp -implicitDefEqProofs +contextual (disch := omega) only [e_spec_l3place, u_spec_l3place, rr_spec_l3place, ints, ↓XD, XU, ↓reduceIte, sevalprocAttr, hl]
  | some j =>
    simp only [hs] at hl
    simp -implicitDefEqProofs +contextual (disch := omega) only [e_spec_l3place, u_spec_l3place, rr_spec_l3place, ints, ↓XD, XU, ↓reduceIte, sevalprocAttr, hl]
theorem ep_l3name (s : ByteArray) (k : Int) : EP A n_spec_l3name [.str s, .int .i64 k] = some (.bool (decide (k ≤ s.size ∧ (s.size : Int) ≤ 40))) := by
  simp -implicitDefEqProofs +contextual (disch := omega) only [e_spec_l3name, u_spec_l3name, rr_spec_l3name, ↓XD, XU, ↓reduceIte, sevalprocAttr]
theorem ep_l3fault (c f n : Int) : EP A n_spec_l3fault [.int .i64 c, .int .i64 f, .int .i64 n] = some (.agg [.int .i64 c, .int .i64 f, .int .i64 n]) := by
  simp -implicitDefEqProofs +contextual (disch := omega) only [e_spec_l3fault, u_spec_l3fault, rr_spec_l3fault, ↓XD, XU, ↓reduceIte, sevalprocAttr]
theorem lp_shape (ns : List Node) (a : Int) (l : List Int) (H : Heap) (hb : l.length ≤ 1048576) : EV A (.loop (B_spec_l3shape 0)) ⟨[(0, nodes ns), (1, .int .i64 a), (4, .bool false), (5, .ptr 0 0 0 1), (17, ints l), (18, .int .i64 l.length), (19, .int .i64 (0))], [], H, []⟩ = some (match seek (fun j => nth l j < 0 ∨ a ≤ nth l j) 0 l.length with | some j => (AExit.ret, (⟨[(0, nodes ns), (1, .int .i64 a), (4, .bool false), (5, .ptr 0 0 0 1), (17, ints l), (18, .int .i64 l.length), (19, .int .i64 j), (7, .int .i64 (nth l j))], [], H, []⟩ : St)) | none => (AExit.exit 0, (⟨[(0, nodes ns), (1, .int .i64 a), (4, .bool false), (5, .ptr 0 0 0 1), (17, ints l), (18, .int .i64 l.length), (19, .int .i64 (l.length))], [], H, []⟩ : St))) := by
  refine loop_search (fun i => ⟨[(0, nodes ns), (1, .int .i64 a), (4, .bool false), (5, .ptr 0 0 0 1), (17, ints l), (18, .int .i64 l.length), (19, .int .i64 i)], [], H, []⟩) (fun j => nth l j < 0 ∨ a ≤ nth l j) (fun j => (AExit.ret, (⟨[(0, nodes ns), (1, .int .i64 a), (4, .bool false), (5, .ptr 0 0 0 1), (17, ints l), (18, .int .i64 l.length), (19, .int .i64 j), (7, .int .i64 (nth l j))], [], H, []⟩ : St))) (AExit.exit 0, (⟨[(0, nodes ns), (1, .int .i64 a), (4, .bool false), (5, .ptr 0 0 0 1), (17, ints l), (18, .int .i64 l.length), (19, .int .i64 (l.length))], [], H, []⟩ : St)) (0) (l.length) ?_ ?_ ?_ (0) (by omega) (by omega)
  · intro i hi hn hp
    try simp only [Classical.not_not] at hp
    refine ⟨_, by simp -implicitDefEqProofs +contextual (disch := omega) only [ub_spec_l3shape_0, rr_spec_l3shape, ↓XD, XU, ↓reduceIte, sevalprocAttr, ints, hn, hp]; rfl, ?_⟩
    first | (simp [St.next, trim_all]; done) | (simp [St.next, trim, bare, refsL, refs, refs]; done)
  · intro i hi hn hp
    refine ⟨by simp -implicitDefEqProofs +contextual (disch := omega) only [ub_spec_l3shape_0, rr_spec_l3shape, ↓XD, XU, ↓reduceIte, sevalprocAttr, ints, hn, hp], by simp⟩
  · rintro i hi rfl
    refine ⟨by simp -implicitDefEqProofs +contextual (disch := omega) only [ub_spec_l3shape_0, rr_spec_l3shape, ↓XD, XU, ↓reduceIte, sevalprocAttr, ints, Int.lt_irrefl], by simp⟩
def Shape (ns : List Node) (a : Int) : Prop :=
  let n := nth ns a
  (n.Kids.length : Int) ≤ 200 ∧ (∀ j : Int, 0 ≤ j → j < n.Kids.length → 0 ≤ nth n.Kids j ∧ nth n.Kids j < a) ∧ (isStat n.Kind ∧ 1 ≤ n.Line ∧ n.Line ≤ 100000 ∧ Stmt ns a ∨ ¬isStat n.Kind ∧ n.Line = 0 ∧ Expr ns a)
theorem ep_l3shape (ns : List Node) (a : Int) (h0 : 0 ≤ a) (h1 : a < ns.length) (hk : (nth ns a).Kids.length ≤ 1048576) : EP A n_spec_l3shape [nodes ns, .int .i64 a] = some (.bool (decide (Shape ns a))) := by
  have hl := fun H => lp_shape ns a (nth ns a).Kids H hk
  cases hs : seek (fun j => nth (nth ns a).Kids j < 0 ∨ a ≤ nth (nth ns a).Kids j) 0 (nth ns a).Kids.length with
  | none =>
    have hq : ∀ j, 0 ≤ j → j < ((nth ns a).Kids.length : Int) → 0 ≤ nth (nth ns a).Kids j ∧ nth (nth ns a).Kids j < a := fun j h2 h3 => by have := seek_none.1 hs j h2 h3; omega
    simp only [hs] at hl
    simp -implicitDefEqProofs +contextual (disch := omega) only [e_spec_l3shape, u_spec_l3shape, rr_spec_l3shape, nodes, ints, Node.cells, ↓XD, XU, ↓reduceIte, sevalprocAttr, ep_l3stat, ep_l3statement, ep_l3expression, hl]
    refine some_bool ?_
    simp only [Shape, Bool.and_eq_true, Bool.not_eq_true', decide_eq_false_iff_not, decide_eq_true_eq]
    by_cases h3 : isStat (nth ns a).Kind <;> simp only [h3, if_true, if_false, Bool.and_eq_true, decide_eq_true_eq] <;> grind
  | some j =>
    obtain ⟨h2, h3, h4, _⟩ := seek_some.1 hs
    have hq : ¬∀ j, 0 ≤ j → j < ((nth ns a).Kids.length : Int) → 0 ≤ nth (nth ns a).Kids j ∧ nth (nth ns a).Kids j < a := fun h => by have := h j h2 h3; omega
    simp only [hs] at hl
    simp -implicitDefEqProofs +contextual (disch := omega) only [e_spec_l3shape, u_spec_l3shape, rr_spec_l3shape, nodes, ints, Node.cells, ↓XD, XU, ↓reduceIte, sevalprocAttr, ep_l3stat, ep_l3statement, ep_l3expression, hl]
    refine some_bool ?_
    simp only [Shape]; grind
theorem lp_head (fs : List Fn) (v1 : PV) (l : List ByteArray) (H : Heap) (hb : l.length ≤ 1048576) : EV A (.loop (B_spec_l3head 0)) ⟨[(0, unit fs), (1, v1), (2, .ptr 0 0 0 1), (4, .bool false), (5, .ptr 1 0 0 1), (72, strs l), (73, .int .i64 l.length), (74, .int .i64 (0))], [], H, []⟩ = some (match seek (fun j => ¬(1 ≤ ((nth l j).size : Int) ∧ ((nth l j).size : Int) ≤ 40)) 0 l.length with | some j => (AExit.ret, (⟨[(0, unit fs), (1, v1), (2, .ptr 0 0 0 1), (4, .bool false), (5, .ptr 1 0 0 1), (72, strs l), (73, .int .i64 l.length), (74, .int .i64 j), (7, .str (nth l j))], [], H, []⟩ : St)) | none => (AExit.exit 0, (⟨[(0, unit fs), (1, v1), (2, .ptr 0 0 0 1), (4, .bool false), (5, .ptr 1 0 0 1), (72, strs l), (73, .int .i64 l.length), (74, .int .i64 (l.length))], [], H, []⟩ : St))) := by
  refine loop_search (fun i => ⟨[(0, unit fs), (1, v1), (2, .ptr 0 0 0 1), (4, .bool false), (5, .ptr 1 0 0 1), (72, strs l), (73, .int .i64 l.length), (74, .int .i64 i)], [], H, []⟩) (fun j => ¬(1 ≤ ((nth l j).size : Int) ∧ ((nth l j).size : Int) ≤ 40)) (fun j => (AExit.ret, (⟨[(0, unit fs), (1, v1), (2, .ptr 0 0 0 1), (4, .bool false), (5, .ptr 1 0 0 1), (72, strs l), (73, .int .i64 l.length), (74, .int .i64 j), (7, .str (nth l j))], [], H, []⟩ : St))) (AExit.exit 0, (⟨[(0, unit fs), (1, v1), (2, .ptr 0 0 0 1), (4, .bool false), (5, .ptr 1 0 0 1), (72, strs l), (73, .int .i64 l.length), (74, .int .i64 (l.length))], [], H, []⟩ : St)) (0) (l.length) ?_ ?_ ?_ (0) (by omega) (by omega)
  · intro i hi hn hp
    try simp only [Classical.not_not] at hp
    refine ⟨_, by simp -implicitDefEqProofs +contextual (disch := omega) only [ub_spec_l3head_0, rr_spec_l3head, ↓XD, XU, ↓reduceIte, sevalprocAttr, strs, ep_l3name, hn, hp]; rfl, ?_⟩
    first | (simp [St.next, trim_all]; done) | (simp [St.next, trim, bare, refsL, refs, refs]; done)
  · intro i hi hn hp
    refine ⟨by simp -implicitDefEqProofs +contextual (disch := omega) only [ub_spec_l3head_0, rr_spec_l3head, ↓XD, XU, ↓reduceIte, sevalprocAttr, strs, ep_l3name, hn, hp], by simp⟩
  · rintro i hi rfl
    refine ⟨by simp -implicitDefEqProofs +contextual (disch := omega) only [ub_spec_l3head_0, rr_spec_l3head, ↓XD, XU, ↓reduceIte, sevalprocAttr, strs, ep_l3name, Int.lt_irrefl], by simp⟩
def Head (fs : List Fn) (f : Int) : Prop :=
  let x := nth fs f
  ¬(x.Nodes.length : Int) = 0 ∧ (x.Vars.length : Int) ≤ 200 ∧ (x.Ups.length : Int) ≤ 200 ∧ 0 ≤ x.Params ∧ x.Params ≤ x.Vars.length ∧ 0 ≤ x.Line ∧ x.Line ≤ 100000 ∧ (x.Name.size : Int) ≤ 40 ∧ (f = 0 → x.Params ≤ 0 ∧ (x.Ups.length : Int) ≤ 0) ∧ ∀ j : Int, 0 ≤ j → j < x.Vars.length → 1 ≤ ((nth x.Vars j).size : Int) ∧ ((nth x.Vars j).size : Int) ≤ 40
theorem ep_l3head (fs : List Fn) (f : Int) (h0 : 0 ≤ f) (h1 : f < fs.length) (hv : (nth fs f).Vars.length ≤ 1048576) : EP A n_spec_l3head [unit fs, .int .i64 f] = some (.bool (decide (Head fs f))) := by
  have hl := fun v1 H => lp_head fs v1 (nth fs f).Vars H hv
  cases hs : seek (fun j => ¬(1 ≤ ((nth (nth fs f).Vars j).size : Int) ∧ ((nth (nth fs f).Vars j).size : Int) ≤ 40)) 0 (nth fs f).Vars.length with
  | none =>
    have hq : ∀ j : Int, 0 ≤ j → j < (nth fs f).Vars.length → 1 ≤ ((nth (nth fs f).Vars j).size : Int) ∧ ((nth (nth fs f).Vars j).size : Int) ≤ 40 := fun j h2 h3 => Classical.not_not.1 (seek_none.1 hs j h2 h3)
    simp only [hs] at hl
    by_cases hf : f = 0
    · subst hf
      simp -implicitDefEqProofs +contextual (disch := omega) only [e_spec_l3head, u_spec_l3head, rr_spec_l3head, unit, fns, nodes, ints, strs, ups, Fn.cells, ↓XD, XU, ↓reduceIte, sevalprocAttr, ep_l3name, hl]
      refine some_bool ?_
      simp only [Head, Bool.and_eq_true, Bool.not_eq_true', decide_eq_false_iff_not, decide_eq_true_eq]; grind
    · simp -implicitDefEqProofs +contextual (disch := omega) only [e_spec_l3head, u_spec_l3head, rr_spec_l3head, unit, fns, nodes, ints, strs, ups, Fn.cells, ↓XD, XU, ↓reduceIte, sevalprocAttr, ep_l3name, hf, hl]
      refine some_bool ?_
      simp only [Head, Bool.and_eq_true, Bool.not_eq_true', decide_eq_false_iff_not, decide_eq_true_eq]; grind
  | some j =>
    obtain ⟨h2, h3, h4, _⟩ := seek_some.1 hs
    have hq : ¬Head fs f := fun h => h4 (h.2.2.2.2.2.2.2.2.2 j h2 h3)
    simp only [hs] at hl
    by_cases hf : f = 0
    · subst hf
      simp -implicitDefEqProofs +contextual (disch := omega) only [e_spec_l3head, u_spec_l3head, rr_spec_l3head, unit, fns, nodes, ints, strs, ups, Fn.cells, ↓XD, XU, ↓reduceIte, sevalprocAttr, ep_l3name, hl, hq]
    · simp -implicitDefEqProofs +contextual (disch := omega) only [e_spec_l3head, u_spec_l3head, rr_spec_l3head, unit, fns, nodes, ints, strs, ups, Fn.cells, ↓XD, XU, ↓reduceIte, sevalprocAttr, ep_l3name, hf, hl, hq]
def Declares (K : Int) (refs : List Int) (v : Int) : Prop := (K = 2 ∨ K = 7 ∨ K = 8 ∨ K = 12) ∧ 0 ≤ place refs v
theorem ep_l3declares (K l o m : Int) (fl : Nat) (s : ByteArray) (rs : List Int) (q : List (List PV)) (v : Int) (hb : rs.length ≤ 1048576) : EP A n_spec_l3declares [.agg [.int .i64 K, .int .i64 l, .int .i64 o, .int .i64 m, .flt .f64 fl, .str s, .fz (rs.map fun k => [.int .i64 k]), .fz q], .int .i64 v] = some (.bool (decide (Declares K rs v))) := by
  simp -implicitDefEqProofs +contextual (disch := omega) only [e_spec_l3declares, u_spec_l3declares, rr_spec_l3declares, ↓XD, XU, ↓reduceIte, sevalprocAttr, ep_l3place, hb]
  refine some_bool ?_
  simp only [Declares]; grind
def Sized (ns : List Node) : Prop := ∀ j : Int, (nth ns j).Refs.length ≤ 1048576 ∧ (nth ns j).Kids.length ≤ 1048576
def KidsIn (ns : List Node) : Prop := ∀ a : Int, 0 ≤ a → a < ns.length → ∀ j : Int, 0 ≤ j → j < (nth ns a).Kids.length → 0 ≤ nth (nth ns a).Kids j ∧ nth (nth ns a).Kids j < a
theorem place_lt (l : List Int) (x : Int) : place l x < l.length ∧ -1 ≤ place l x := by
  rw [place]
  cases hs : seek (fun j => nth l j = x) 0 l.length with
  | none => dsimp only; omega
  | some j => have := seek_some.1 hs; dsimp only; omega
theorem lp_visible1 (f : Fn) (v0 v1 v2 w9 w10 : PV) (r0 : refs v0 = []) (r1 : refs v1 = []) (r2 : refs v2 = []) (r9 : refs w9 = []) (r10 : refs w10 = []) (hT : List PV) (up v p : Int) (hu0 : 0 ≤ up) (hu : up < f.Nodes.length) (hp0 : -1 ≤ p) (hpl : p < (nth f.Nodes up).Kids.length) (hsz : Sized f.Nodes) (hki : KidsIn f.Nodes) (hp00 : 0 ≤ p) : EV A (.loop (B_spec_l3visible 1)) ⟨[(0, v0), (1, v1), (2, v2), (3, .int .i64 v), (4, .ptr 0 0 0 1), (5, .ptr 1 0 0 1), (8, .bool false), (9, w9), (10, w10), (11, .ptr 2 0 0 1), (12, .int .i64 p), (13, .int .i64 (0))], [], [.cells 7 [f.cells], .cells 2 [hT], .cells 8 [(nth f.Nodes up).cells]], []⟩ = some (match seek (fun j => (nth f.Nodes (nth (nth f.Nodes up).Kids j)).Kind = 2 ∧ Declares 2 (nth f.Nodes (nth (nth f.Nodes up).Kids j)).Refs v) 0 p with | some j => (AExit.ret, (⟨[(0, v0), (1, v1), (2, v2), (3, .int .i64 v), (4, .ptr 0 0 0 1), (5, .ptr 1 0 0 1), (8, .bool true), (9, w9), (10, w10), (11, .ptr 2 0 0 1), (12, .int .i64 p), (13, .int .i64 j), (14, .ptr 3 0 0 1)], [], [.cells 7 [f.cells], .cells 2 [hT], .cells 8 [(nth f.Nodes up).cells], .cells 8 [(nth f.Nodes (nth (nth f.Nodes up).Kids j)).cells]], []⟩ : St)) | none => (AExit.exit 2, (⟨[(0, v0), (1, v1), (2, v2), (3, .int .i64 v), (4, .ptr 0 0 0 1), (5, .ptr 1 0 0 1), (8, .bool false), (9, w9), (10, w10), (11, .ptr 2 0 0 1), (12, .int .i64 p), (13, .int .i64 (p))], [], [.cells 7 [f.cells], .cells 2 [hT], .cells 8 [(nth f.Nodes up).cells]], []⟩ : St))) := by
  refine loop_search (fun i => ⟨[(0, v0), (1, v1), (2, v2), (3, .int .i64 v), (4, .ptr 0 0 0 1), (5, .ptr 1 0 0 1), (8, .bool false), (9, w9), (10, w10), (11, .ptr 2 0 0 1), (12, .int .i64 p), (13, .int .i64 i)], [], [.cells 7 [f.cells], .cells 2 [hT], .cells 8 [(nth f.Nodes up).cells]], []⟩) (fun j => (nth f.Nodes (nth (nth f.Nodes up).Kids j)).Kind = 2 ∧ Declares 2 (nth f.Nodes (nth (nth f.Nodes up).Kids j)).Refs v) (fun j => (AExit.ret, (⟨[(0, v0), (1, v1), (2, v2), (3, .int .i64 v), (4, .ptr 0 0 0 1), (5, .ptr 1 0 0 1), (8, .bool true), (9, w9), (10, w10), (11, .ptr 2 0 0 1), (12, .int .i64 p), (13, .int .i64 j), (14, .ptr 3 0 0 1)], [], [.cells 7 [f.cells], .cells 2 [hT], .cells 8 [(nth f.Nodes up).cells], .cells 8 [(nth f.Nodes (nth (nth f.Nodes up).Kids j)).cells]], []⟩ : St))) (AExit.exit 2, (⟨[(0, v0), (1, v1), (2, v2), (3, .int .i64 v), (4, .ptr 0 0 0 1), (5, .ptr 1 0 0 1), (8, .bool false), (9, w9), (10, w10), (11, .ptr 2 0 0 1), (12, .int .i64 p), (13, .int .i64 (p))], [], [.cells 7 [f.cells], .cells 2 [hT], .cells 8 [(nth f.Nodes up).cells]], []⟩ : St)) (0) (p) ?_ ?_ ?_ (0) (by omega) (by omega)
  · intro i hi hn hp
    have hk1 := hki up hu0 hu i (by omega) (by omega); have hk2 := (hsz (nth (nth f.Nodes up).Kids i)).1; have hk3 := (hsz up).2
    try simp only [Classical.not_not] at hp
    refine ⟨_, by simp -implicitDefEqProofs +contextual (disch := omega) only [ub_spec_l3visible_1, rr_spec_l3visible, ↓XD, XU, ↓reduceIte, sevalprocAttr, ints, strs, ups, nodes, Node.cells, Fn.cells, ep_l3declares, hn, hp]; rfl, ?_⟩
    first | (simp [St.next, trim_all]; done) | (simp [St.next, trim, bare, refsL, refs, r0, r1, r2, r9, r10]; done)
  · intro i hi hn hp
    have hk1 := hki up hu0 hu i (by omega) (by omega); have hk2 := (hsz (nth (nth f.Nodes up).Kids i)).1; have hk3 := (hsz up).2
    refine ⟨by simp -implicitDefEqProofs +contextual (disch := omega) only [ub_spec_l3visible_1, rr_spec_l3visible, ↓XD, XU, ↓reduceIte, sevalprocAttr, ints, strs, ups, nodes, Node.cells, Fn.cells, ep_l3declares, hn, hp], by simp⟩
  · rintro i hi rfl
    refine ⟨by simp -implicitDefEqProofs +contextual (disch := omega) only [ub_spec_l3visible_1, rr_spec_l3visible, ↓XD, XU, ↓reduceIte, sevalprocAttr, ints, strs, ups, nodes, Node.cells, Fn.cells, ep_l3declares, Int.lt_irrefl], by simp⟩
def Hit (ns : List Node) (v below up : Int) : Prop :=
  ((nth ns up).Kind = 1 ∧ ∃ j : Int, 0 ≤ j ∧ j < place (nth ns up).Kids below ∧ (nth ns (nth (nth ns up).Kids j)).Kind = 2 ∧ Declares 2 (nth ns (nth (nth ns up).Kids j)).Refs v) ∨
  (((nth ns up).Kind = 7 ∨ (nth ns up).Kind = 8 ∨ (nth ns up).Kind = 12) ∧ place (nth ns up).Kids below = (nth ns up).Kids.length - 1 ∧ Declares (nth ns up).Kind (nth ns up).Refs v)
inductive Vis (ns : List Node) (pa : List Int) (v : Int) : Int → Int → Prop
  | hit {below up : Int} : 0 ≤ up → Hit ns v below up → Vis ns pa v below up
  | step {below up : Int} : 0 ≤ up → Vis ns pa v up (nth pa up) → Vis ns pa v below up
abbrev s_vis (f : Fn) (pa de : List Int) (a v below up : Int) : St := ⟨[(0, .agg f.cells), (1, .agg [ints pa, ints de]), (2, .int .i64 a), (3, .int .i64 v), (4, .ptr 0 0 0 1), (5, .ptr 1 0 0 1), (8, .bool false), (9, .int .i64 below), (10, .int .i64 up)], [], [.cells 7 [f.cells], .cells 2 [[ints pa, ints de]]], []⟩
theorem bd_vis (f : Fn) (pa de : List Int) (a v below up : Int) (hu0 : 0 ≤ up) (hu : up < f.Nodes.length) (hpa : up < pa.length) (hsz : Sized f.Nodes) (hki : KidsIn f.Nodes) (hpl : 0 ≤ place (nth f.Nodes up).Kids below) :
    (Hit f.Nodes v below up ∧ ∃ st, EV A (B_spec_l3visible 0) (s_vis f pa de a v below up) = some (.ret, st) ∧ st.per.get 8 = .bool true) ∨
    (¬Hit f.Nodes v below up ∧ ∃ st, EV A (B_spec_l3visible 0) (s_vis f pa de a v below up) = some (.normal, st) ∧ (s_vis f pa de a v below up).next st = s_vis f pa de a v up (nth pa up)) := by
  have hk2 := (hsz up).1
  have hk3 := (hsz up).2
  have hp := place_lt (nth f.Nodes up).Kids below
  by_cases hK : (nth f.Nodes up).Kind = 1
  · have hl := lp_visible1 f (.agg f.cells) (.agg [ints pa, ints de]) (.int .i64 a) (.int .i64 below) (.int .i64 up) rfl rfl rfl rfl rfl [ints pa, ints de] up v (place (nth f.Nodes up).Kids below) hu0 hu (by omega) (by omega) hsz hki (by omega)
    cases hs : seek (fun j => (nth f.Nodes (nth (nth f.Nodes up).Kids j)).Kind = 2 ∧ Declares 2 (nth f.Nodes (nth (nth f.Nodes up).Kids j)).Refs v) 0 (place (nth f.Nodes up).Kids below) with
    | some j =>
      obtain ⟨h2, h3, h4, _⟩ := seek_some.1 hs
      simp only [hs, Node.cells, hK] at hl
      refine .inl ⟨.inl ⟨hK, j, h2, h3, h4⟩, ?w1, ?g1a, ?g1b⟩
      case g1a =>
        simp -implicitDefEqProofs +contextual (disch := omega) only [ub_spec_l3visible_0, rr_spec_l3visible, s_vis, ints, strs, ups, nodes, Node.cells, Fn.cells, ↓XD, XU, ↓reduceIte, sevalprocAttr, ep_l3place, ep_l3declares, hu0, hK, hl]
        rfl
      case g1b => simp [Env.get]
    | none =>
      have hq : ¬Hit f.Nodes v below up := by
        rintro (⟨_, j, h2, h3, h4⟩ | ⟨h, _⟩)
        · exact seek_none.1 hs j h2 h3 h4
        · omega
      simp only [hs, Node.cells, hK] at hl
      refine .inr ⟨hq, ?w2, ?g2a, ?g2b⟩
      case g2a =>
        simp -implicitDefEqProofs +contextual (disch := omega) only [ub_spec_l3visible_0, rr_spec_l3visible, s_vis, ints, strs, ups, nodes, Node.cells, Fn.cells, ↓XD, XU, ↓reduceIte, sevalprocAttr, ep_l3place, ep_l3declares, hu0, hK, hl]
        rfl
      case g2b => simp [St.next, trim, bare, refsL, refs]
  · by_cases hh : ((((nth f.Nodes up).Kind = 7 ∨ (nth f.Nodes up).Kind = 8) ∨ (nth f.Nodes up).Kind = 12) ∧ place (nth f.Nodes up).Kids below = (nth f.Nodes up).Kids.length - 1) ∧ Declares (nth f.Nodes up).Kind (nth f.Nodes up).Refs v
    · refine .inl ⟨.inr ⟨or_assoc.1 hh.1.1, hh.1.2, hh.2⟩, ?w3, ?g3a, ?g3b⟩
      case g3a =>
        simp -implicitDefEqProofs +contextual (disch := omega) only [ub_spec_l3visible_0, rr_spec_l3visible, s_vis, ints, strs, ups, nodes, Node.cells, Fn.cells, ↓XD, XU, ↓reduceIte, sevalprocAttr, ep_l3place, ep_l3declares, hu0, hK, hh]
        rfl
      case g3b => simp [Env.get]
    · refine .inr ⟨fun h => ?_, ?w4, ?g4a, ?g4b⟩
      · rcases h with ⟨h, _⟩ | ⟨h1, h2, h3⟩
        · exact hK h
        · exact hh ⟨⟨or_assoc.2 h1, h2⟩, h3⟩
      case g4a =>
        simp -implicitDefEqProofs +contextual (disch := omega) only [ub_spec_l3visible_0, rr_spec_l3visible, s_vis, ints, strs, ups, nodes, Node.cells, Fn.cells, ↓XD, XU, ↓reduceIte, sevalprocAttr, ep_l3place, ep_l3declares, hu0, hK, hh]
        rfl
      case g4b => simp [St.next, trim, bare, refsL, refs]
def TreeOk (ns : List Node) (pa : List Int) : Prop := pa.length = ns.length ∧ ∀ i : Int, 0 ≤ i → i < ns.length → nth pa i = -1 ∨ (i < nth pa i ∧ nth pa i < ns.length ∧ 0 ≤ place (nth ns (nth pa i)).Kids i)
theorem vis_up {ns : List Node} {pa : List Int} {v below up : Int} (h0 : 0 ≤ up) (hh : ¬Hit ns v below up) : Vis ns pa v below up ↔ Vis ns pa v up (nth pa up) :=
  ⟨fun h => by cases h with | hit _ h => exact absurd h hh | step _ h => exact h, fun h => .step h0 h⟩
theorem vis_end {ns : List Node} {pa : List Int} {v below up : Int} (h0 : up < 0) : ¬Vis ns pa v below up := fun h => by cases h <;> omega
theorem lp_vis (f : Fn) (pa de : List Int) (a v : Int) (hsz : Sized f.Nodes) (hki : KidsIn f.Nodes) (ht : TreeOk f.Nodes pa) (b : Int × Int) (hb : 0 ≤ b.1 ∧ b.1 < f.Nodes.length ∧ b.2 = nth pa b.1) :
    ∃ r, EV A (.loop (B_spec_l3visible 0)) (s_vis f pa de a v b.1 b.2) = some r ∧ ((Vis f.Nodes pa v b.1 b.2 ∧ ∃ st, r = (.ret, st) ∧ st.per.get 8 = .bool true) ∨ (¬Vis f.Nodes pa v b.1 b.2 ∧ ∃ b' u', r = (.exit 0, s_vis f pa de a v b' u'))) := by
  refine loop_ind (fun b : Int × Int => s_vis f pa de a v b.1 b.2) (fun b => 0 ≤ b.1 ∧ b.1 < f.Nodes.length ∧ b.2 = nth pa b.1) (fun b => (f.Nodes.length - b.1).toNat) (fun b r => (Vis f.Nodes pa v b.1 b.2 ∧ ∃ st, r = (.ret, st) ∧ st.per.get 8 = .bool true) ∨ (¬Vis f.Nodes pa v b.1 b.2 ∧ ∃ b' u', r = (.exit 0, s_vis f pa de a v b' u'))) ?_ b hb
  rintro ⟨below, up⟩ ⟨h1, h2, h3⟩
  dsimp only at h1 h2 h3 ⊢
  rcases ht.2 below h1 h2 with h4 | ⟨h4, h5, h6⟩
  · left
    refine ⟨_, ?_, ?_, .inr ⟨vis_end (by omega), below, up, rfl⟩⟩
    · have h7 : ¬0 ≤ up := by omega
      simp -implicitDefEqProofs +contextual (disch := omega) only [ub_spec_l3visible_0, rr_spec_l3visible, s_vis, ↓XD, XU, ↓reduceIte, sevalprocAttr, h7]
    · simp
  · rw [← h3] at h4 h5 h6
    have hl : pa.length = f.Nodes.length := ht.1
    rcases bd_vis f pa de a v below up (by omega) h5 (by omega) hsz hki h6 with ⟨hh, st, e, g⟩ | ⟨hh, st, e, g⟩
    · exact .inl ⟨_, e, by simp, .inl ⟨.hit (by omega) hh, st, rfl, g⟩⟩
    · refine .inr ⟨(up, nth pa up), st, ⟨by omega, h5, rfl⟩, by dsimp only; omega, e, g, fun r h => ?_⟩
      rw [vis_up (by omega) hh]; exact h
def Visible (f : Fn) (pa : List Int) (a v : Int) : Prop := v < f.Params ∨ Vis f.Nodes pa v a (nth pa a)
theorem ep_l3visible (f : Fn) (pa de : List Int) (a v : Int) (h0 : 0 ≤ a) (h1 : a < f.Nodes.length) (hsz : Sized f.Nodes) (hki : KidsIn f.Nodes) (ht : TreeOk f.Nodes pa) : EP A n_spec_l3visible [.agg f.cells, .agg [ints pa, ints de], .int .i64 a, .int .i64 v] = some (.bool (decide (Visible f pa a v))) := by
  have hl : pa.length = f.Nodes.length := ht.1
  by_cases hp : v < f.Params
  · have hv : Visible f pa a v := .inl hp
    simp -implicitDefEqProofs +contextual (disch := omega) only [e_spec_l3visible, u_spec_l3visible, rr_spec_l3visible, ints, strs, ups, nodes, Fn.cells, ↓XD, XU, ↓reduceIte, sevalprocAttr, hp, hv]
  · obtain ⟨r, hr, hq⟩ := lp_vis f pa de a v hsz hki ht (a, nth pa a) ⟨h0, h1, rfl⟩
    dsimp only at hr hq
    rcases hq with ⟨hv, st, rfl, g⟩ | ⟨hv, b', u', rfl⟩
    · have hv : Visible f pa a v := .inr hv
      simp -implicitDefEqProofs +contextual (disch := omega) only [e_spec_l3visible, u_spec_l3visible, rr_spec_l3visible, ints, strs, ups, nodes, Fn.cells, ↓XD, XU, ↓reduceIte, sevalprocAttr, hp, hv, hr, g]
    · have hv : ¬Visible f pa a v := fun h => h.elim hp hv
      simp -implicitDefEqProofs +contextual (disch := omega) only [e_spec_l3visible, u_spec_l3visible, rr_spec_l3visible, ints, strs, ups, nodes, Fn.cells, ↓XD, XU, ↓reduceIte, sevalprocAttr, hp, hv, hr]
def LoopHit (ns : List Node) (below up : Int) : Prop := ((nth ns up).Kind = 6 ∨ (nth ns up).Kind = 7 ∨ (nth ns up).Kind = 8) ∧ nth (nth ns up).Kids ((nth ns up).Kids.length - 1) = below
inductive InLoop (ns : List Node) (pa : List Int) : Int → Int → Prop
  | hit {below up : Int} : 0 ≤ up → LoopHit ns below up → InLoop ns pa below up
  | step {below up : Int} : 0 ≤ up → InLoop ns pa up (nth pa up) → InLoop ns pa below up
theorem inloop_up {ns : List Node} {pa : List Int} {below up : Int} (h0 : 0 ≤ up) (hh : ¬LoopHit ns below up) : InLoop ns pa below up ↔ InLoop ns pa up (nth pa up) :=
  ⟨fun h => by cases h with | hit _ h => exact absurd h hh | step _ h => exact h, fun h => .step h0 h⟩
theorem inloop_end {ns : List Node} {pa : List Int} {below up : Int} (h0 : up < 0) : ¬InLoop ns pa below up := fun h => by cases h <;> omega
abbrev s_inl (f : Fn) (pa de : List Int) (a below up : Int) : St := ⟨[(0, .agg f.cells), (1, .agg [ints pa, ints de]), (2, .int .i64 a), (3, .ptr 0 0 0 1), (4, .ptr 1 0 0 1), (6, .bool false), (7, .int .i64 below), (8, .int .i64 up)], [], [.cells 7 [f.cells], .cells 2 [[ints pa, ints de]]], []⟩
theorem bd_inl (f : Fn) (pa de : List Int) (a below up : Int) (hu0 : 0 ≤ up) (hu : up < f.Nodes.length) (hpa : up < pa.length) (hsz : Sized f.Nodes) (hpl : 0 ≤ place (nth f.Nodes up).Kids below) :
    (LoopHit f.Nodes below up ∧ ∃ st, EV A (B_spec_l3inloop 0) (s_inl f pa de a below up) = some (.ret, st) ∧ st.per.get 6 = .bool true) ∨
    (¬LoopHit f.Nodes below up ∧ ∃ st, EV A (B_spec_l3inloop 0) (s_inl f pa de a below up) = some (.normal, st) ∧ (s_inl f pa de a below up).next st = s_inl f pa de a up (nth pa up)) := by
  have hk3 := (hsz up).2
  have hp := place_lt (nth f.Nodes up).Kids below
  by_cases hh : (((nth f.Nodes up).Kind = 6 ∨ (nth f.Nodes up).Kind = 7) ∨ (nth f.Nodes up).Kind = 8) ∧ nth (nth f.Nodes up).Kids ((nth f.Nodes up).Kids.length - 1) = below
  · refine .inl ⟨⟨or_assoc.1 hh.1, hh.2⟩, ?w1, ?g1a, ?g1b⟩
    case g1a =>
      simp -implicitDefEqProofs +contextual (disch := omega) only [ub_spec_l3inloop_0, rr_spec_l3inloop, s_inl, ints, strs, ups, nodes, Node.cells, Fn.cells, ↓XD, XU, ↓reduceIte, sevalprocAttr, hu0, hh.1, hh.2]
      rfl
    case g1b => simp [Env.get]
  · refine .inr ⟨fun h => hh ⟨or_assoc.2 h.1, h.2⟩, ?w2, ?g2a, ?g2b⟩
    case g2a =>
      simp -implicitDefEqProofs +contextual (disch := omega) only [ub_spec_l3inloop_0, rr_spec_l3inloop, s_inl, ints, strs, ups, nodes, Node.cells, Fn.cells, ↓XD, XU, ↓reduceIte, sevalprocAttr, hu0, hh]
      rfl
    case g2b => simp [St.next, trim, bare, refsL, refs]
theorem lp_inl (f : Fn) (pa de : List Int) (a : Int) (hsz : Sized f.Nodes) (ht : TreeOk f.Nodes pa) (b : Int × Int) (hb : 0 ≤ b.1 ∧ b.1 < f.Nodes.length ∧ b.2 = nth pa b.1) :
    ∃ r, EV A (.loop (B_spec_l3inloop 0)) (s_inl f pa de a b.1 b.2) = some r ∧ ((InLoop f.Nodes pa b.1 b.2 ∧ ∃ st, r = (.ret, st) ∧ st.per.get 6 = .bool true) ∨ (¬InLoop f.Nodes pa b.1 b.2 ∧ ∃ b' u', r = (.exit 0, s_inl f pa de a b' u'))) := by
  refine loop_ind (fun b : Int × Int => s_inl f pa de a b.1 b.2) (fun b => 0 ≤ b.1 ∧ b.1 < f.Nodes.length ∧ b.2 = nth pa b.1) (fun b => (f.Nodes.length - b.1).toNat) (fun b r => (InLoop f.Nodes pa b.1 b.2 ∧ ∃ st, r = (.ret, st) ∧ st.per.get 6 = .bool true) ∨ (¬InLoop f.Nodes pa b.1 b.2 ∧ ∃ b' u', r = (.exit 0, s_inl f pa de a b' u'))) ?_ b hb
  rintro ⟨below, up⟩ ⟨h1, h2, h3⟩
  dsimp only at h1 h2 h3 ⊢
  rcases ht.2 below h1 h2 with h4 | ⟨h4, h5, h6⟩
  · left
    refine ⟨_, ?_, ?_, .inr ⟨inloop_end (by omega), below, up, rfl⟩⟩
    · have h7 : ¬0 ≤ up := by omega
      simp -implicitDefEqProofs +contextual (disch := omega) only [ub_spec_l3inloop_0, rr_spec_l3inloop, s_inl, ↓XD, XU, ↓reduceIte, sevalprocAttr, h7]
    · simp
  · rw [← h3] at h4 h5 h6
    have hl : pa.length = f.Nodes.length := ht.1
    rcases bd_inl f pa de a below up (by omega) h5 (by omega) hsz h6 with ⟨hh, st, e, g⟩ | ⟨hh, st, e, g⟩
    · exact .inl ⟨_, e, by simp, .inl ⟨.hit (by omega) hh, st, rfl, g⟩⟩
    · refine .inr ⟨(up, nth pa up), st, ⟨by omega, h5, rfl⟩, by dsimp only; omega, e, g, fun r h => ?_⟩
      rw [inloop_up (by omega) hh]; exact h
theorem ep_l3inloop (f : Fn) (pa de : List Int) (a : Int) (h0 : 0 ≤ a) (h1 : a < f.Nodes.length) (hsz : Sized f.Nodes) (ht : TreeOk f.Nodes pa) : EP A n_spec_l3inloop [.agg f.cells, .agg [ints pa, ints de], .int .i64 a] = some (.bool (decide (InLoop f.Nodes pa a (nth pa a)))) := by
  have hl : pa.length = f.Nodes.length := ht.1
  obtain ⟨r, hr, hq⟩ := lp_inl f pa de a hsz ht (a, nth pa a) ⟨h0, h1, rfl⟩
  dsimp only at hr hq
  rcases hq with ⟨hv, st, rfl, g⟩ | ⟨hv, b', u', rfl⟩
  · simp -implicitDefEqProofs +contextual (disch := omega) only [e_spec_l3inloop, u_spec_l3inloop, rr_spec_l3inloop, ints, strs, ups, nodes, Fn.cells, ↓XD, XU, ↓reduceIte, sevalprocAttr, hv, hr, g]
  · simp -implicitDefEqProofs +contextual (disch := omega) only [e_spec_l3inloop, u_spec_l3inloop, rr_spec_l3inloop, ints, strs, ups, nodes, Fn.cells, ↓XD, XU, ↓reduceIte, sevalprocAttr, hv, hr]
def UpBad (fs : List Fn) (f : Int) (pa : List Int) (a g j : Int) : Prop := if (nth (nth fs g).Ups j).Local = true then (((nth (nth fs g).Ups j).Index < 0 ∨ (nth fs f).Vars.length ≤ (nth (nth fs g).Ups j).Index) ∨ ¬Visible (nth fs f) pa a (nth (nth fs g).Ups j).Index) else ((nth (nth fs g).Ups j).Index < 0 ∨ (nth fs f).Ups.length ≤ (nth (nth fs g).Ups j).Index)
def UpsOk (fs : List Fn) (f : Int) (pa : List Int) (a g : Int) : Prop := ∀ j : Int, 0 ≤ j → j < (nth fs g).Ups.length → ¬UpBad fs f pa a g j
theorem lp_ups (fs : List Fn) (f : Int) (pa de : List Int) (a g : Int) (h0 : 0 ≤ g) (h1 : g < fs.length) (f0 : 0 ≤ f) (f1 : f < fs.length) (a0 : 0 ≤ a) (a1 : a < (nth fs f).Nodes.length) (hu : (nth fs g).Ups.length ≤ 1048576) (hsz : Sized (nth fs f).Nodes) (hki : KidsIn (nth fs f).Nodes) (ht : TreeOk (nth fs f).Nodes pa) : EV A (.loop (B_spec_l3ups 0)) ⟨[(0, unit fs), (1, .int .i64 f), (2, .agg [ints pa, ints de]), (3, .int .i64 a), (4, .int .i64 g), (5, .ptr 0 0 0 1), (7, .ptr 1 0 0 1), (10, .bool false), (18, ups (nth fs g).Ups), (19, .int .i64 (nth fs g).Ups.length), (20, .int .i64 (0))], [], [.cells 1 [[fns fs]], .cells 2 [[ints pa, ints de]]], []⟩ = some (match seek (fun j => if (nth (nth fs g).Ups j).Local = true then (((nth (nth fs g).Ups j).Index < 0 ∨ (nth fs f).Vars.length ≤ (nth (nth fs g).Ups j).Index) ∨ ¬Visible (nth fs f) pa a (nth (nth fs g).Ups j).Index) else ((nth (nth fs g).Ups j).Index < 0 ∨ (nth fs f).Ups.length ≤ (nth (nth fs g).Ups j).Index)) 0 (nth fs g).Ups.length with | some j => (AExit.ret, (⟨[(0, unit fs), (1, .int .i64 f), (2, .agg [ints pa, ints de]), (3, .int .i64 a), (4, .int .i64 g), (5, .ptr 0 0 0 1), (7, .ptr 1 0 0 1), (10, .bool false), (18, ups (nth fs g).Ups), (19, .int .i64 (nth fs g).Ups.length), (20, .int .i64 j), (12, .ptr 2 0 0 1)], [], [.cells 1 [[fns fs]], .cells 2 [[ints pa, ints de]], .cells 2 [(nth (nth fs g).Ups j).cells]], []⟩ : St)) | none => (AExit.exit 0, (⟨[(0, unit fs), (1, .int .i64 f), (2, .agg [ints pa, ints de]), (3, .int .i64 a), (4, .int .i64 g), (5, .ptr 0 0 0 1), (7, .ptr 1 0 0 1), (10, .bool false), (18, ups (nth fs g).Ups), (19, .int .i64 (nth fs g).Ups.length), (20, .int .i64 ((nth fs g).Ups.length))], [], [.cells 1 [[fns fs]], .cells 2 [[ints pa, ints de]]], []⟩ : St))) := by
  refine loop_search (fun i => ⟨[(0, unit fs), (1, .int .i64 f), (2, .agg [ints pa, ints de]), (3, .int .i64 a), (4, .int .i64 g), (5, .ptr 0 0 0 1), (7, .ptr 1 0 0 1), (10, .bool false), (18, ups (nth fs g).Ups), (19, .int .i64 (nth fs g).Ups.length), (20, .int .i64 i)], [], [.cells 1 [[fns fs]], .cells 2 [[ints pa, ints de]]], []⟩) (fun j => if (nth (nth fs g).Ups j).Local = true then (((nth (nth fs g).Ups j).Index < 0 ∨ (nth fs f).Vars.length ≤ (nth (nth fs g).Ups j).Index) ∨ ¬Visible (nth fs f) pa a (nth (nth fs g).Ups j).Index) else ((nth (nth fs g).Ups j).Index < 0 ∨ (nth fs f).Ups.length ≤ (nth (nth fs g).Ups j).Index)) (fun j => (AExit.ret, (⟨[(0, unit fs), (1, .int .i64 f), (2, .agg [ints pa, ints de]), (3, .int .i64 a), (4, .int .i64 g), (5, .ptr 0 0 0 1), (7, .ptr 1 0 0 1), (10, .bool false), (18, ups (nth fs g).Ups), (19, .int .i64 (nth fs g).Ups.length), (20, .int .i64 j), (12, .ptr 2 0 0 1)], [], [.cells 1 [[fns fs]], .cells 2 [[ints pa, ints de]], .cells 2 [(nth (nth fs g).Ups j).cells]], []⟩ : St))) (AExit.exit 0, (⟨[(0, unit fs), (1, .int .i64 f), (2, .agg [ints pa, ints de]), (3, .int .i64 a), (4, .int .i64 g), (5, .ptr 0 0 0 1), (7, .ptr 1 0 0 1), (10, .bool false), (18, ups (nth fs g).Ups), (19, .int .i64 (nth fs g).Ups.length), (20, .int .i64 ((nth fs g).Ups.length))], [], [.cells 1 [[fns fs]], .cells 2 [[ints pa, ints de]]], []⟩ : St)) (0) ((nth fs g).Ups.length) ?_ ?_ ?_ (0) (by omega) (by omega)
  · intro i hi hn hp
    by_cases hL : (nth (nth fs g).Ups i).Local = true
    · simp only [hL, if_true, if_false, Bool.false_eq_true] at hp
      try simp only [Classical.not_not] at hp
      refine ⟨_, by simp -implicitDefEqProofs +contextual (disch := omega) only [ub_spec_l3ups_0, rr_spec_l3ups, ↓XD, XU, ↓reduceIte, sevalprocAttr, unit, fns, ints, strs, ups, nodes, Up.cells, Fn.cells, ep_l3visible, hL, hn, hp]; rfl, ?_⟩
      first | (simp [St.next, trim_all]; done) | (simp [St.next, trim, bare, refsL, refs, refs]; done)
    · simp only [hL, if_true, if_false, Bool.false_eq_true] at hp
      try simp only [Classical.not_not] at hp
      refine ⟨_, by simp -implicitDefEqProofs +contextual (disch := omega) only [ub_spec_l3ups_0, rr_spec_l3ups, ↓XD, XU, ↓reduceIte, sevalprocAttr, unit, fns, ints, strs, ups, nodes, Up.cells, Fn.cells, ep_l3visible, hL, hn, hp]; rfl, ?_⟩
      first | (simp [St.next, trim_all]; done) | (simp [St.next, trim, bare, refsL, refs, refs]; done)
  · intro i hi hn hp
    by_cases hL : (nth (nth fs g).Ups i).Local = true
    · simp only [hL, if_true, if_false, Bool.false_eq_true] at hp
      refine ⟨by simp -implicitDefEqProofs +contextual (disch := omega) only [ub_spec_l3ups_0, rr_spec_l3ups, ↓XD, XU, ↓reduceIte, sevalprocAttr, unit, fns, ints, strs, ups, nodes, Up.cells, Fn.cells, ep_l3visible, hL, hn, hp], by simp⟩
    · simp only [hL, if_true, if_false, Bool.false_eq_true] at hp
      refine ⟨by simp -implicitDefEqProofs +contextual (disch := omega) only [ub_spec_l3ups_0, rr_spec_l3ups, ↓XD, XU, ↓reduceIte, sevalprocAttr, unit, fns, ints, strs, ups, nodes, Up.cells, Fn.cells, ep_l3visible, hL, hn, hp], by simp⟩
  · rintro i hi rfl
    refine ⟨by simp -implicitDefEqProofs +contextual (disch := omega) only [ub_spec_l3ups_0, rr_spec_l3ups, ↓XD, XU, ↓reduceIte, sevalprocAttr, unit, fns, ints, strs, ups, nodes, Up.cells, Fn.cells, ep_l3visible, Int.lt_irrefl], by simp⟩
theorem ep_l3ups (fs : List Fn) (f : Int) (pa de : List Int) (a g : Int) (h0 : 0 ≤ g) (h1 : g < fs.length) (f0 : 0 ≤ f) (f1 : f < fs.length) (a0 : 0 ≤ a) (a1 : a < (nth fs f).Nodes.length) (hu : (nth fs g).Ups.length ≤ 1048576) (hsz : Sized (nth fs f).Nodes) (hki : KidsIn (nth fs f).Nodes) (ht : TreeOk (nth fs f).Nodes pa) :
    EP A n_spec_l3ups [unit fs, .int .i64 f, .agg [ints pa, ints de], .int .i64 a, .int .i64 g] = some (.bool (decide (UpsOk fs f pa a g))) := by
  have hl := lp_ups fs f pa de a g h0 h1 f0 f1 a0 a1 hu hsz hki ht
  cases hs : seek (fun j => UpBad fs f pa a g j) 0 (nth fs g).Ups.length with
  | none =>
    have hq : UpsOk fs f pa a g := fun j h2 h3 => seek_none.1 hs j h2 h3
    simp only [UpBad] at hs
    simp only [hs] at hl
    simp -implicitDefEqProofs +contextual (disch := omega) only [e_spec_l3ups, u_spec_l3ups, rr_spec_l3ups, unit, fns, ints, strs, ups, nodes, Fn.cells, ↓XD, XU, ↓reduceIte, sevalprocAttr, hl, hq]
  | some j =>
    obtain ⟨h2, h3, h4, _⟩ := seek_some.1 hs
    have hq : ¬UpsOk fs f pa a g := fun h => h j h2 h3 h4
    simp only [UpBad] at hs
    simp only [hs] at hl
    simp -implicitDefEqProofs +contextual (disch := omega) only [e_spec_l3ups, u_spec_l3ups, rr_spec_l3ups, unit, fns, ints, strs, ups, nodes, Fn.cells, ↓XD, XU, ↓reduceIte, sevalprocAttr, hl, hq]
abbrev il (l : List Int) : List (List PV) := l.map fun k => [.int .i64 k]
theorem lp_g0 (ns : List Node) (de : List Int) (hb : ns.length ≤ 1048576) (a0 : List Int) (hok0 : a0.length = ns.length) : EV A (.loop (B_spec_l3grow 0)) (⟨[(0, nodes ns), (2, .ptr 0 0 0 1), (3, .ptr 3 0 0 1), (18, .int .i64 ns.length), (19, .int .i64 (0))], [], [.cells 2 [[.nils, .nils]], .cells 1 (il a0), .cells 1 (il de), .cells 2 [[.sl 1 0 ns.length ns.length, .sl 2 0 ns.length ns.length]]], []⟩ : St) = some (AExit.exit 0, (⟨[(0, nodes ns), (2, .ptr 0 0 0 1), (3, .ptr 3 0 0 1), (18, .int .i64 ns.length), (19, .int .i64 (ns.length))], [], [.cells 2 [[.nils, .nils]], .cells 1 (il (iter (fun (i : Int) (a : List Int) => a.set i.toNat (-2)) ((ns.length : Int) - 0).toNat (0) a0)), .cells 1 (il de), .cells 2 [[.sl 1 0 ns.length ns.length, .sl 2 0 ns.length ns.length]]], []⟩ : St)) ∧ (iter (fun (i : Int) (a : List Int) => a.set i.toNat (-2)) ((ns.length : Int) - 0).toNat (0) a0).length = ns.length := by
  refine loop_iter (fun i (a : List Int) => (⟨[(0, nodes ns), (2, .ptr 0 0 0 1), (3, .ptr 3 0 0 1), (18, .int .i64 ns.length), (19, .int .i64 i)], [], [.cells 2 [[.nils, .nils]], .cells 1 (il a), .cells 1 (il de), .cells 2 [[.sl 1 0 ns.length ns.length, .sl 2 0 ns.length ns.length]]], []⟩ : St)) (fun (i : Int) (a : List Int) => a.set i.toNat (-2)) (fun i (a : List Int) => a.length = ns.length) (fun a => (AExit.exit 0, (⟨[(0, nodes ns), (2, .ptr 0 0 0 1), (3, .ptr 3 0 0 1), (18, .int .i64 ns.length), (19, .int .i64 (ns.length))], [], [.cells 2 [[.nils, .nils]], .cells 1 (il a), .cells 1 (il de), .cells 2 [[.sl 1 0 ns.length ns.length, .sl 2 0 ns.length ns.length]]], []⟩ : St))) (0) (ns.length) ?_ ?_ (0) a0 (by omega) (by omega) hok0
  · intro i a hi hn hok
    refine ⟨⟨_, by simp -implicitDefEqProofs +contextual (disch := omega) only [ub_spec_l3grow_0, rr_spec_l3grow, ↓XD, XU, ↓reduceIte, sevalprocAttr, il, hn, hok]; rfl, by first | (simp [St.next, trim_all]; done) | (simp [St.next, trim_all]; omega) | (simp [St.next, trim, bare, refsL, refs]; done)⟩, by simp; omega⟩
  · rintro i a hi rfl hok
    refine ⟨by simp -implicitDefEqProofs +contextual (disch := omega) only [ub_spec_l3grow_0, rr_spec_l3grow, ↓XD, XU, ↓reduceIte, sevalprocAttr, il, Int.lt_irrefl, hok], by simp⟩
theorem lp_g2 (ns : List Node) (de kids : List Int) (v18 v28 v29 : PV) (j : Int) (hb : ns.length ≤ 1048576) (hkb : kids.length ≤ 1048576) (hk : ∀ i : Int, 0 ≤ i → i < kids.length → 0 ≤ nth kids i ∧ nth kids i < ns.length) (a0 : List Int) (hok0 : a0.length = ns.length) : EV A (.loop (B_spec_l3grow 2)) (⟨[(0, nodes ns), (2, .ptr 0 0 0 1), (3, .ptr 3 0 0 1), (18, v18), (19, v18), (28, v28), (29, v29), (5, .int .i64 j), (36, ints kids), (37, .int .i64 kids.length), (38, .int .i64 (0))], [], [.cells 2 [[.nils, .nils]], .cells 1 (il a0), .cells 1 (il de), .cells 2 [[.sl 1 0 ns.length ns.length, .sl 2 0 ns.length ns.length]]], []⟩ : St) = some (AExit.exit 4, (⟨[(0, nodes ns), (2, .ptr 0 0 0 1), (3, .ptr 3 0 0 1), (18, v18), (19, v18), (28, v28), (29, v29), (5, .int .i64 j), (36, ints kids), (37, .int .i64 kids.length), (38, .int .i64 (kids.length))], [], [.cells 2 [[.nils, .nils]], .cells 1 (il (iter (fun (i : Int) (a : List Int) => a.set (nth kids i).toNat (if nth a (nth kids i) = -2 then j else -3)) ((kids.length : Int) - 0).toNat (0) a0)), .cells 1 (il de), .cells 2 [[.sl 1 0 ns.length ns.length, .sl 2 0 ns.length ns.length]]], []⟩ : St)) ∧ (iter (fun (i : Int) (a : List Int) => a.set (nth kids i).toNat (if nth a (nth kids i) = -2 then j else -3)) ((kids.length : Int) - 0).toNat (0) a0).length = ns.length := by
  refine loop_iter (fun i (a : List Int) => (⟨[(0, nodes ns), (2, .ptr 0 0 0 1), (3, .ptr 3 0 0 1), (18, v18), (19, v18), (28, v28), (29, v29), (5, .int .i64 j), (36, ints kids), (37, .int .i64 kids.length), (38, .int .i64 i)], [], [.cells 2 [[.nils, .nils]], .cells 1 (il a), .cells 1 (il de), .cells 2 [[.sl 1 0 ns.length ns.length, .sl 2 0 ns.length ns.length]]], []⟩ : St)) (fun (i : Int) (a : List Int) => a.set (nth kids i).toNat (if nth a (nth kids i) = -2 then j else -3)) (fun i (a : List Int) => a.length = ns.length) (fun a => (AExit.exit 4, (⟨[(0, nodes ns), (2, .ptr 0 0 0 1), (3, .ptr 3 0 0 1), (18, v18), (19, v18), (28, v28), (29, v29), (5, .int .i64 j), (36, ints kids), (37, .int .i64 kids.length), (38, .int .i64 (kids.length))], [], [.cells 2 [[.nils, .nils]], .cells 1 (il a), .cells 1 (il de), .cells 2 [[.sl 1 0 ns.length ns.length, .sl 2 0 ns.length ns.length]]], []⟩ : St))) (0) (kids.length) ?_ ?_ (0) a0 (by omega) (by omega) hok0
  · intro i a hi hn hok
    have hk1 := hk i hi hn
    by_cases hL : nth a (nth kids i) = -2
    · refine ⟨⟨_, by simp -implicitDefEqProofs +contextual (disch := omega) only [ub_spec_l3grow_2, rr_spec_l3grow, ↓XD, XU, ↓reduceIte, sevalprocAttr, il, hL, hn, hok]; rfl, by first | (simp [St.next, trim_all, hL]; done) | (simp [St.next, trim_all, hL]; omega) | (simp [St.next, trim, bare, refsL, refs, hL]; done)⟩, by simp; omega⟩
    · refine ⟨⟨_, by simp -implicitDefEqProofs +contextual (disch := omega) only [ub_spec_l3grow_2, rr_spec_l3grow, ↓XD, XU, ↓reduceIte, sevalprocAttr, il, hL, hn, hok]; rfl, by first | (simp [St.next, trim_all, hL]; done) | (simp [St.next, trim_all, hL]; omega) | (simp [St.next, trim, bare, refsL, refs, hL]; done)⟩, by simp; omega⟩
  · rintro i a hi rfl hok
    refine ⟨by simp -implicitDefEqProofs +contextual (disch := omega) only [ub_spec_l3grow_2, rr_spec_l3grow, ↓XD, XU, ↓reduceIte, sevalprocAttr, il, Int.lt_irrefl, hok], by simp⟩
abbrev gKid (kids : List Int) (j : Int) (i : Int) (a : List Int) : List Int := a.set (nth kids i).toNat (if nth a (nth kids i) = -2 then j else -3)
theorem lp_g1 (ns : List Node) (de : List Int) (hb : ns.length ≤ 1048576) (hsz : Sized ns) (hki : KidsIn ns) (a0 : List Int) (hok0 : a0.length = ns.length) : EV A (.loop (B_spec_l3grow 1)) (⟨[(0, nodes ns), (2, .ptr 0 0 0 1), (3, .ptr 3 0 0 1), (18, .int .i64 ns.length), (19, .int .i64 ns.length), (28, .int .i64 ns.length), (29, .int .i64 (0))], [], [.cells 2 [[.nils, .nils]], .cells 1 (il a0), .cells 1 (il de), .cells 2 [[.sl 1 0 ns.length ns.length, .sl 2 0 ns.length ns.length]]], []⟩ : St) = some (AExit.exit 2, (⟨[(0, nodes ns), (2, .ptr 0 0 0 1), (3, .ptr 3 0 0 1), (18, .int .i64 ns.length), (19, .int .i64 ns.length), (28, .int .i64 ns.length), (29, .int .i64 (ns.length))], [], [.cells 2 [[.nils, .nils]], .cells 1 (il (iter (fun (i : Int) (a : List Int) => iter (gKid (nth ns i).Kids i) ((nth ns i).Kids.length - 0 : Int).toNat 0 a) ((ns.length : Int) - 0).toNat (0) a0)), .cells 1 (il de), .cells 2 [[.sl 1 0 ns.length ns.length, .sl 2 0 ns.length ns.length]]], []⟩ : St)) ∧ (iter (fun (i : Int) (a : List Int) => iter (gKid (nth ns i).Kids i) ((nth ns i).Kids.length - 0 : Int).toNat 0 a) ((ns.length : Int) - 0).toNat (0) a0).length = ns.length := by
  refine loop_iter (fun i (a : List Int) => (⟨[(0, nodes ns), (2, .ptr 0 0 0 1), (3, .ptr 3 0 0 1), (18, .int .i64 ns.length), (19, .int .i64 ns.length), (28, .int .i64 ns.length), (29, .int .i64 i)], [], [.cells 2 [[.nils, .nils]], .cells 1 (il a), .cells 1 (il de), .cells 2 [[.sl 1 0 ns.length ns.length, .sl 2 0 ns.length ns.length]]], []⟩ : St)) (fun (i : Int) (a : List Int) => iter (gKid (nth ns i).Kids i) ((nth ns i).Kids.length - 0 : Int).toNat 0 a) (fun i (a : List Int) => a.length = ns.length) (fun a => (AExit.exit 2, (⟨[(0, nodes ns), (2, .ptr 0 0 0 1), (3, .ptr 3 0 0 1), (18, .int .i64 ns.length), (19, .int .i64 ns.length), (28, .int .i64 ns.length), (29, .int .i64 (ns.length))], [], [.cells 2 [[.nils, .nils]], .cells 1 (il a), .cells 1 (il de), .cells 2 [[.sl 1 0 ns.length ns.length, .sl 2 0 ns.length ns.length]]], []⟩ : St))) (0) (ns.length) ?_ ?_ (0) a0 (by omega) (by omega) hok0
  · intro i a hi hn hok
    have hl := lp_g2 ns de (nth ns i).Kids (.int .i64 ns.length) (.int .i64 ns.length) (.int .i64 i) i hb (hsz i).2 (fun k h2 h3 => by have := hki i hi hn k h2 h3; omega) a hok; have hl1 := hl.1
    refine ⟨⟨_, by simp -implicitDefEqProofs +contextual (disch := omega) only [ub_spec_l3grow_1, rr_spec_l3grow, ↓XD, XU, ↓reduceIte, sevalprocAttr, il, nodes, Node.cells, ints, hl1, hn, hok]; rfl, by first | (simp [St.next, trim_all]; done) | (simp [St.next, trim_all]; omega) | (simp [St.next, trim, bare, refsL, refs]; done)⟩, by exact hl.2⟩
  · rintro i a hi rfl hok
    refine ⟨by simp -implicitDefEqProofs +contextual (disch := omega) only [ub_spec_l3grow_1, rr_spec_l3grow, ↓XD, XU, ↓reduceIte, sevalprocAttr, il, nodes, Node.cells, ints, Int.lt_irrefl, hok], by simp⟩
abbrev gDep (L : Nat) (pa : List Int) (j : Int) (a : List Int) : List Int := if 0 ≤ nth pa (L - 2 - j) then a.set (L - 2 - j : Int).toNat (nth a (nth pa (L - 2 - j)) + 1) else a
theorem gdep_ok {L : Nat} {pa a : List Int} {i : Int} (hb : L ≤ 1048576) (h1 : 1 ≤ L) (hok : a.length = L ∧ ∀ k : Int, 0 ≤ nth a k ∧ nth a k ≤ i) (hk2 : 0 ≤ nth a (nth pa (L - 2 - i)) ∧ nth a (nth pa (L - 2 - i)) ≤ i) (hi : 0 ≤ i) (hn : i < (L : Int) - 1) : (gDep L pa i a).length = L ∧ ∀ k : Int, 0 ≤ nth (gDep L pa i a) k ∧ nth (gDep L pa i a) k ≤ i + 1 := by
  simp only [gDep]
  split
  · refine ⟨by simpa using hok.1, fun k => ?_⟩
    by_cases hk : 0 ≤ k
    · rw [nth_set (by omega) (by omega) hk]
      split
      · omega
      · have := hok.2 k; omega
    · have e : ∀ l : List Int, nth l k = nth l 0 := fun l => by simp [nth, show k.toNat = 0 by omega]
      rw [e, nth_set (by omega) (by omega) (by omega)]
      split
      · omega
      · have := hok.2 0; omega
  · exact ⟨hok.1, fun k => by have := hok.2 k; omega⟩
theorem lp_g3 (ns : List Node) (pa : List Int) (v18 v28 v29 v8 : PV) (hb : ns.length ≤ 1048576) (h1 : 1 ≤ ns.length) (hp : pa.length = ns.length) (hpa : ∀ k : Int, 0 ≤ k → k < ns.length → nth pa k < ns.length) (a0 : List Int) (hok0 : a0.length = ns.length ∧ ∀ k : Int, 0 ≤ nth a0 k ∧ nth a0 k ≤ (0)) : EV A (.loop (B_spec_l3grow 3)) (⟨[(0, nodes ns), (2, .ptr 0 0 0 1), (3, .ptr 3 0 0 1), (18, v18), (19, v18), (28, v28), (29, v29), (8, v8), (9, .int .i64 ((ns.length : Int) - 2 - (0)))], [], [.cells 2 [[.nils, .nils]], .cells 1 (il pa), .cells 1 (il a0), .cells 2 [[.sl 1 0 ns.length ns.length, .sl 2 0 ns.length ns.length]]], []⟩ : St) = some (AExit.exit 6, (⟨[(0, nodes ns), (2, .ptr 0 0 0 1), (3, .ptr 3 0 0 1), (18, v18), (19, v18), (28, v28), (29, v29), (8, v8), (9, .int .i64 ((ns.length : Int) - 2 - ((ns.length : Int) - 1)))], [], [.cells 2 [[.nils, .nils]], .cells 1 (il pa), .cells 1 (il (iter (fun (i : Int) (a : List Int) => gDep ns.length pa i a) (((ns.length : Int) - 1 : Int) - 0).toNat (0) a0)), .cells 2 [[.sl 1 0 ns.length ns.length, .sl 2 0 ns.length ns.length]]], []⟩ : St)) ∧ (iter (fun (i : Int) (a : List Int) => gDep ns.length pa i a) (((ns.length : Int) - 1 : Int) - 0).toNat (0) a0).length = ns.length ∧ ∀ k : Int, 0 ≤ nth (iter (fun (i : Int) (a : List Int) => gDep ns.length pa i a) (((ns.length : Int) - 1 : Int) - 0).toNat (0) a0) k ∧ nth (iter (fun (i : Int) (a : List Int) => gDep ns.length pa i a) (((ns.length : Int) - 1 : Int) - 0).toNat (0) a0) k ≤ ((ns.length : Int) - 1) := by
  refine loop_iter (fun i (a : List Int) => (⟨[(0, nodes ns), (2, .ptr 0 0 0 1), (3, .ptr 3 0 0 1), (18, v18), (19, v18), (28, v28), (29, v29), (8, v8), (9, .int .i64 ((ns.length : Int) - 2 - i))], [], [.cells 2 [[.nils, .nils]], .cells 1 (il pa), .cells 1 (il a), .cells 2 [[.sl 1 0 ns.length ns.length, .sl 2 0 ns.length ns.length]]], []⟩ : St)) (fun (i : Int) (a : List Int) => gDep ns.length pa i a) (fun i (a : List Int) => a.length = ns.length ∧ ∀ k : Int, 0 ≤ nth a k ∧ nth a k ≤ i) (fun a => (AExit.exit 6, (⟨[(0, nodes ns), (2, .ptr 0 0 0 1), (3, .ptr 3 0 0 1), (18, v18), (19, v18), (28, v28), (29, v29), (8, v8), (9, .int .i64 ((ns.length : Int) - 2 - ((ns.length : Int) - 1)))], [], [.cells 2 [[.nils, .nils]], .cells 1 (il pa), .cells 1 (il a), .cells 2 [[.sl 1 0 ns.length ns.length, .sl 2 0 ns.length ns.length]]], []⟩ : St))) (0) ((ns.length : Int) - 1) ?_ ?_ (0) a0 (by omega) (by omega) hok0
  · intro i a hi hn hok
    have hk1 := hpa ((ns.length : Int) - 2 - i) (by omega) (by omega); have hk2 := hok.2 (nth pa ((ns.length : Int) - 2 - i)); have hi2 : 0 ≤ (ns.length : Int) - 2 - i := (by omega); have hok1 := hok.1; have hsub : (ns.length : Int) - 2 - i - 1 = ns.length - 2 - (i + 1) := by omega
    by_cases hL : 0 ≤ nth pa ((ns.length : Int) - 2 - i)
    · refine ⟨⟨_, by simp -implicitDefEqProofs +contextual (disch := omega) only [ub_spec_l3grow_3, rr_spec_l3grow, ↓XD, XU, ↓reduceIte, sevalprocAttr, il, hp, hok1, hi2, hsub, hL, hn, hok]; rfl, by first | (simp [St.next, trim_all, gDep, hL]; done) | (simp [St.next, trim_all, gDep, hL]; omega) | (simp [St.next, trim, bare, refsL, refs, gDep, hL]; done)⟩, by exact gdep_ok hb h1 hok hk2 hi hn⟩
    · refine ⟨⟨_, by simp -implicitDefEqProofs +contextual (disch := omega) only [ub_spec_l3grow_3, rr_spec_l3grow, ↓XD, XU, ↓reduceIte, sevalprocAttr, il, hp, hok1, hi2, hsub, hL, hn, hok]; rfl, by first | (simp [St.next, trim_all, gDep, hL]; done) | (simp [St.next, trim_all, gDep, hL]; omega) | (simp [St.next, trim, bare, refsL, refs, gDep, hL]; done)⟩, by exact gdep_ok hb h1 hok hk2 hi hn⟩
  · rintro i a hi rfl hok
    have he : ¬0 ≤ (ns.length : Int) - 2 - (ns.length - 1) := by omega
    refine ⟨by simp -implicitDefEqProofs +contextual (disch := omega) only [ub_spec_l3grow_3, rr_spec_l3grow, ↓XD, XU, ↓reduceIte, sevalprocAttr, il, hp, Int.lt_irrefl, hok, he], by simp⟩
def growP0 (ns : List Node) : List Int := iter (fun i a => a.set i.toNat (-2)) ((ns.length : Int) - 0).toNat 0 (List.replicate ns.length 0)
def growP1 (ns : List Node) : List Int := iter (fun i a => iter (gKid (nth ns i).Kids i) (((nth ns i).Kids.length : Int) - 0).toNat 0 a) ((ns.length : Int) - 0).toNat 0 (growP0 ns)
noncomputable def growP (ns : List Node) : List Int := if nth (growP1 ns) ((ns.length : Int) - 1) = -2 then (growP1 ns).set ((ns.length : Int) - 1).toNat (-1) else growP1 ns
noncomputable def growD (ns : List Node) : List Int := iter (gDep ns.length (growP ns)) (((ns.length : Int) - 1) - 0).toNat 0 (List.replicate ns.length 0)
theorem ep_l3grow (ns : List Node) (hb : ns.length ≤ 1048576) (h1 : 1 ≤ ns.length) (hsz : Sized ns) (hki : KidsIn ns) (hpa : ∀ k : Int, 0 ≤ k → k < ns.length → nth (growP ns) k < ns.length) : EP A n_spec_l3grow [nodes ns] = some (.agg [ints (growP ns), ints (growD ns)]) := by
  obtain ⟨e0, l0⟩ := lp_g0 ns (List.replicate ns.length 0) hb (List.replicate ns.length 0) (by simp)
  have hP0 : growP0 ns = iter (fun i a => a.set i.toNat (-2)) ((ns.length : Int) - 0).toNat 0 (List.replicate ns.length 0) := rfl
  rw [← hP0] at e0 l0
  obtain ⟨e1, l1⟩ := lp_g1 ns (List.replicate ns.length 0) hb hsz hki (growP0 ns) l0
  have hP1 : growP1 ns = iter (fun i a => iter (gKid (nth ns i).Kids i) (((nth ns i).Kids.length : Int) - 0).toNat 0 a) ((ns.length : Int) - 0).toNat 0 (growP0 ns) := rfl
  rw [← hP1] at e1 l1
  have lp : (growP ns).length = ns.length := by rw [growP]; split <;> simpa using l1
  have e3 := fun v18 v28 v29 v8 => lp_g3 ns (growP ns) v18 v28 v29 v8 hb h1 lp hpa (List.replicate ns.length 0) ⟨by simp, fun k => by
    have : nth (List.replicate ns.length (0 : Int)) k = 0 := by
      simp only [nth, List.getD, List.getElem?_replicate]; split <;> rfl
    omega⟩
  have hD : growD ns = iter (gDep ns.length (growP ns)) (((ns.length : Int) - 1) - 0).toNat 0 (List.replicate ns.length 0) := rfl
  simp only [← hD] at e3
  have l3 : (growD ns).length = ns.length := (e3 .und .und .und .und).2.1
  have e3 := fun v18 v28 v29 v8 => (e3 v18 v28 v29 v8).1
  rw [show (ns.length : Int) - 2 - 0 = ns.length - 1 - 1 by omega] at e3
  by_cases hc : nth (growP1 ns) ((ns.length : Int) - 1) = -2
  · have hP : growP ns = (growP1 ns).set ((ns.length : Int) - 1).toNat (-1) := by rw [growP, if_pos hc]
    simp only [hP] at e3 lp
    simp -implicitDefEqProofs +contextual (disch := omega) only [e_spec_l3grow, u_spec_l3grow, rr_spec_l3grow, nodes, ints, ↓XD, XU, ↓reduceIte, sevalprocAttr, e0, e1, hc, l1, e3, l3, lp, hP]
  · have hP : growP ns = growP1 ns := by rw [growP, if_neg hc]
    simp only [hP] at e3 lp
    simp -implicitDefEqProofs +contextual (disch := omega) only [e_spec_l3grow, u_spec_l3grow, rr_spec_l3grow, nodes, ints, ↓XD, XU, ↓reduceIte, sevalprocAttr, e0, e1, hc, l1, e3, l3, lp, hP]
abbrev flt3 (c f n : Int) : List PV := [.int .i64 c, .int .i64 f, .int .i64 n]
abbrev hU (fs : List Fn) : Heap := [.cells 1 [[fns fs]], .cells 3 [[.int .i64 0, .int .i64 0, .int .i64 0]]]
def total (fs : List Fn) : Int := ((fs.map fun f => f.Nodes.length).sum : Nat)
def totalN (fs : List Fn) (n : Nat) : Int := (((fs.take n).map fun f => f.Nodes.length).sum : Nat)
theorem totalN_step (fs : List Fn) {i : Int} (h0 : 0 ≤ i) (h1 : i < fs.length) : totalN fs i.toNat + (nth fs i).Nodes.length = totalN fs (i + 1).toNat := by
  have e : (i + 1).toNat = i.toNat + 1 := by omega
  have h : i.toNat < fs.length := by omega
  rw [totalN, totalN, e, List.take_succ_eq_append_getElem h, List.map_append, List.sum_append]
  simp [nth, List.getD, h]
theorem sum_take_le (l : List Nat) (n : Nat) : (l.take n).sum ≤ l.sum := by
  have := List.sum_append (l₁ := l.take n) (l₂ := l.drop n)
  rw [List.take_append_drop] at this
  omega
theorem totalN_le (fs : List Fn) (n : Nat) : 0 ≤ totalN fs n ∧ totalN fs n ≤ total fs := by
  refine ⟨by simp [totalN], ?_⟩
  rw [totalN, total, List.map_take]
  have := sum_take_le (fs.map fun f => f.Nodes.length) n
  omega
theorem lp_f0 (fs : List Fn) (hb : fs.length ≤ 1048576) (ht : total fs ≤ 1048576) (a0 : Int) (hok0 : a0 = totalN fs ((0) : Int).toNat) : EV A (.loop (B_z3f 0)) (⟨[(0, unit fs), (1, .ptr 0 0 0 1), (2, .ptr 1 0 0 1), (3, .int .i64 a0), (10, fns fs), (11, .int .i64 fs.length), (12, .int .i64 (0))], [], hU fs, []⟩ : St) = some (AExit.exit 0, (⟨[(0, unit fs), (1, .ptr 0 0 0 1), (2, .ptr 1 0 0 1), (3, .int .i64 (iter (fun (i : Int) (a : Int) => totalN fs (i + 1).toNat) ((fs.length : Int) - 0).toNat (0) a0)), (10, fns fs), (11, .int .i64 fs.length), (12, .int .i64 (fs.length))], [], hU fs, []⟩ : St)) ∧ (iter (fun (i : Int) (a : Int) => totalN fs (i + 1).toNat) ((fs.length : Int) - 0).toNat (0) a0) = totalN fs ((fs.length) : Int).toNat := by
  refine loop_iter (fun i (a : Int) => (⟨[(0, unit fs), (1, .ptr 0 0 0 1), (2, .ptr 1 0 0 1), (3, .int .i64 a), (10, fns fs), (11, .int .i64 fs.length), (12, .int .i64 i)], [], hU fs, []⟩ : St)) (fun (i : Int) (a : Int) => totalN fs (i + 1).toNat) (fun i (a : Int) => a = totalN fs (i : Int).toNat) (fun a => (AExit.exit 0, (⟨[(0, unit fs), (1, .ptr 0 0 0 1), (2, .ptr 1 0 0 1), (3, .int .i64 a), (10, fns fs), (11, .int .i64 fs.length), (12, .int .i64 (fs.length))], [], hU fs, []⟩ : St))) (0) (fs.length) ?_ ?_ (0) a0 (by omega) (by omega) hok0
  · intro i a hi hn hok
    have hs := totalN_step fs hi hn; have hs2 := totalN_le fs i.toNat; have hs3 := totalN_le fs (i + 1).toNat
    refine ⟨⟨_, by simp -implicitDefEqProofs +contextual (disch := omega) only [ub_z3f_0, rr_z3f, ↓XD, XU, ↓reduceIte, sevalprocAttr, hU, unit, fns, Fn.cells, hs, hn, hok]; rfl, by first | (simp [St.next, trim_all]; done) | (simp [St.next, trim_all]; omega) | (simp [St.next, trim, bare, refsL, refs]; done)⟩, by rfl⟩
  · rintro i a hi rfl hok
    refine ⟨by simp -implicitDefEqProofs +contextual (disch := omega) only [ub_z3f_0, rr_z3f, ↓XD, XU, ↓reduceIte, sevalprocAttr, hU, unit, fns, Fn.cells, Int.lt_irrefl, hok], by simp⟩
def SizedF (fs : List Fn) : Prop := ∀ j : Int, (nth fs j).Vars.length ≤ 1048576 ∧ (nth fs j).Ups.length ≤ 1048576 ∧ (nth fs j).Nodes.length ≤ 1048576 ∧ Sized (nth fs j).Nodes
theorem lp_f1 (fs : List Fn) (t : Int) (hb : fs.length ≤ 1048576) (hs : SizedF fs) : match seek (fun (j : Int) => ¬Head fs j) 0 fs.length with | some j => ∃ st, EV A (.loop (B_z3f 1)) (⟨[(0, unit fs), (1, .ptr 0 0 0 1), (2, .ptr 1 0 0 1), (3, .int .i64 t), (10, fns fs), (11, .int .i64 fs.length), (12, .int .i64 fs.length), (39, .int .i64 fs.length), (40, .int .i64 (0))], [], hU fs, []⟩ : St) = some (.ret, st) ∧ ResAt 2 1 3 (flt3 2 j 0) st | none => EV A (.loop (B_z3f 1)) (⟨[(0, unit fs), (1, .ptr 0 0 0 1), (2, .ptr 1 0 0 1), (3, .int .i64 t), (10, fns fs), (11, .int .i64 fs.length), (12, .int .i64 fs.length), (39, .int .i64 fs.length), (40, .int .i64 (0))], [], hU fs, []⟩ : St) = some (AExit.exit 2, (⟨[(0, unit fs), (1, .ptr 0 0 0 1), (2, .ptr 1 0 0 1), (3, .int .i64 t), (10, fns fs), (11, .int .i64 fs.length), (12, .int .i64 fs.length), (39, .int .i64 fs.length), (40, .int .i64 (fs.length))], [], hU fs, []⟩ : St)) := by
  refine loop_seek (fun i => (⟨[(0, unit fs), (1, .ptr 0 0 0 1), (2, .ptr 1 0 0 1), (3, .int .i64 t), (10, fns fs), (11, .int .i64 fs.length), (12, .int .i64 fs.length), (39, .int .i64 fs.length), (40, .int .i64 i)], [], hU fs, []⟩ : St)) (fun (j : Int) => ¬Head fs j) (fun (j : Int) (st : St) => ResAt 2 1 3 (flt3 2 j 0) st) (AExit.exit 2, (⟨[(0, unit fs), (1, .ptr 0 0 0 1), (2, .ptr 1 0 0 1), (3, .int .i64 t), (10, fns fs), (11, .int .i64 fs.length), (12, .int .i64 fs.length), (39, .int .i64 fs.length), (40, .int .i64 (fs.length))], [], hU fs, []⟩ : St)) (0) (fs.length) ?_ ?_ ?_ (0) (by omega) (by omega)
  · intro i hi hn hp
    try simp only [Classical.not_not] at hp
    have hs1 := (hs i).1
    refine ⟨_, by simp -implicitDefEqProofs +contextual (disch := omega) only [ub_z3f_1, rr_z3f, ↓XD, XU, ↓reduceIte, sevalprocAttr, hU, unit, fns, ep_l3head, ep_l3fault, hn, hp]; rfl, by first | (simp [St.next, trim_all]; done) | (simp [St.next, trim_all]; omega) | (simp [St.next, trim, bare, refsL, refs]; done)⟩
  · intro i hi hn hp
    have hs1 := (hs i).1
    refine ⟨_, by simp -implicitDefEqProofs +contextual (disch := omega) only [ub_z3f_1, rr_z3f, ↓XD, XU, ↓reduceIte, sevalprocAttr, hU, unit, fns, ep_l3head, ep_l3fault, hn, hp]; rfl, by simp [ResAt, Env.get, Env.put]⟩
  · rintro i hi rfl
    refine ⟨by simp -implicitDefEqProofs +contextual (disch := omega) only [ub_z3f_1, rr_z3f, ↓XD, XU, ↓reduceIte, sevalprocAttr, hU, unit, fns, ep_l3head, ep_l3fault, Int.lt_irrefl], by simp⟩
theorem lp_f3 (fs : List Fn) (t f : Int) (v1 : PV) (f0 : 0 ≤ f) (f1 : f < fs.length) (hb : fs.length ≤ 1048576) (hs : SizedF fs) (hn : (nth fs f).Nodes.length ≤ 1048576) : match seek (fun (j : Int) => ¬Shape (nth fs f).Nodes j) 0 (nth fs f).Nodes.length with | some j => ∃ st, EV A (.loop (B_z3f 3)) (⟨[(0, unit fs), (1, .ptr 0 0 0 1), (2, .ptr 1 0 0 1), (3, .int .i64 t), (10, fns fs), (11, .int .i64 fs.length), (12, .int .i64 fs.length), (39, .int .i64 fs.length), (40, .int .i64 fs.length), (52, .int .i64 fs.length), (53, .int .i64 f), (7, .int .i64 f), (62, .int .i64 (nth fs f).Nodes.length), (63, .int .i64 (0))], [], hU fs, []⟩ : St) = some (.ret, st) ∧ ResAt 2 1 3 (flt3 3 f j) st | none => EV A (.loop (B_z3f 3)) (⟨[(0, unit fs), (1, .ptr 0 0 0 1), (2, .ptr 1 0 0 1), (3, .int .i64 t), (10, fns fs), (11, .int .i64 fs.length), (12, .int .i64 fs.length), (39, .int .i64 fs.length), (40, .int .i64 fs.length), (52, .int .i64 fs.length), (53, .int .i64 f), (7, .int .i64 f), (62, .int .i64 (nth fs f).Nodes.length), (63, .int .i64 (0))], [], hU fs, []⟩ : St) = some (AExit.exit 6, (⟨[(0, unit fs), (1, .ptr 0 0 0 1), (2, .ptr 1 0 0 1), (3, .int .i64 t), (10, fns fs), (11, .int .i64 fs.length), (12, .int .i64 fs.length), (39, .int .i64 fs.length), (40, .int .i64 fs.length), (52, .int .i64 fs.length), (53, .int .i64 f), (7, .int .i64 f), (62, .int .i64 (nth fs f).Nodes.length), (63, .int .i64 ((nth fs f).Nodes.length))], [], hU fs, []⟩ : St)) := by
  refine loop_seek (fun i => (⟨[(0, unit fs), (1, .ptr 0 0 0 1), (2, .ptr 1 0 0 1), (3, .int .i64 t), (10, fns fs), (11, .int .i64 fs.length), (12, .int .i64 fs.length), (39, .int .i64 fs.length), (40, .int .i64 fs.length), (52, .int .i64 fs.length), (53, .int .i64 f), (7, .int .i64 f), (62, .int .i64 (nth fs f).Nodes.length), (63, .int .i64 i)], [], hU fs, []⟩ : St)) (fun (j : Int) => ¬Shape (nth fs f).Nodes j) (fun (j : Int) (st : St) => ResAt 2 1 3 (flt3 3 f j) st) (AExit.exit 6, (⟨[(0, unit fs), (1, .ptr 0 0 0 1), (2, .ptr 1 0 0 1), (3, .int .i64 t), (10, fns fs), (11, .int .i64 fs.length), (12, .int .i64 fs.length), (39, .int .i64 fs.length), (40, .int .i64 fs.length), (52, .int .i64 fs.length), (53, .int .i64 f), (7, .int .i64 f), (62, .int .i64 (nth fs f).Nodes.length), (63, .int .i64 ((nth fs f).Nodes.length))], [], hU fs, []⟩ : St)) (0) ((nth fs f).Nodes.length) ?_ ?_ ?_ (0) (by omega) (by omega)
  · intro i hi hn hp
    try simp only [Classical.not_not] at hp
    have hs1 := ((hs f).2.2.2 i).2
    refine ⟨_, by simp -implicitDefEqProofs +contextual (disch := omega) only [ub_z3f_3, rr_z3f, ↓XD, XU, ↓reduceIte, sevalprocAttr, hU, unit, fns, Fn.cells, nodes, ep_l3shape, ep_l3fault, hn, hp]; rfl, by first | (simp [St.next, trim_all]; done) | (simp [St.next, trim_all]; omega) | (simp [St.next, trim, bare, refsL, refs]; done)⟩
  · intro i hi hn hp
    have hs1 := ((hs f).2.2.2 i).2
    refine ⟨_, by simp -implicitDefEqProofs +contextual (disch := omega) only [ub_z3f_3, rr_z3f, ↓XD, XU, ↓reduceIte, sevalprocAttr, hU, unit, fns, Fn.cells, nodes, ep_l3shape, ep_l3fault, hn, hp]; rfl, by simp [ResAt, Env.get, Env.put]⟩
  · rintro i hi rfl
    refine ⟨by simp -implicitDefEqProofs +contextual (disch := omega) only [ub_z3f_3, rr_z3f, ↓XD, XU, ↓reduceIte, sevalprocAttr, hU, unit, fns, Fn.cells, nodes, ep_l3shape, ep_l3fault, Int.lt_irrefl], by simp⟩
noncomputable abbrev badShape (fs : List Fn) (j : Int) : Option Int := seek (fun n => ¬Shape (nth fs j).Nodes n) 0 (nth fs j).Nodes.length
theorem lp_f2 (fs : List Fn) (t : Int) (hb : fs.length ≤ 1048576) (hs : SizedF fs) : match seek (fun (j : Int) => badShape fs j ≠ none) 0 fs.length with | some j => ∃ st, EV A (.loop (B_z3f 2)) (⟨[(0, unit fs), (1, .ptr 0 0 0 1), (2, .ptr 1 0 0 1), (3, .int .i64 t), (10, fns fs), (11, .int .i64 fs.length), (12, .int .i64 fs.length), (39, .int .i64 fs.length), (40, .int .i64 fs.length), (52, .int .i64 fs.length), (53, .int .i64 (0))], [], hU fs, []⟩ : St) = some (.ret, st) ∧ ResAt 2 1 3 (flt3 3 j ((badShape fs j).getD 0)) st | none => EV A (.loop (B_z3f 2)) (⟨[(0, unit fs), (1, .ptr 0 0 0 1), (2, .ptr 1 0 0 1), (3, .int .i64 t), (10, fns fs), (11, .int .i64 fs.length), (12, .int .i64 fs.length), (39, .int .i64 fs.length), (40, .int .i64 fs.length), (52, .int .i64 fs.length), (53, .int .i64 (0))], [], hU fs, []⟩ : St) = some (AExit.exit 4, (⟨[(0, unit fs), (1, .ptr 0 0 0 1), (2, .ptr 1 0 0 1), (3, .int .i64 t), (10, fns fs), (11, .int .i64 fs.length), (12, .int .i64 fs.length), (39, .int .i64 fs.length), (40, .int .i64 fs.length), (52, .int .i64 fs.length), (53, .int .i64 (fs.length))], [], hU fs, []⟩ : St)) := by
  refine loop_seek (fun i => (⟨[(0, unit fs), (1, .ptr 0 0 0 1), (2, .ptr 1 0 0 1), (3, .int .i64 t), (10, fns fs), (11, .int .i64 fs.length), (12, .int .i64 fs.length), (39, .int .i64 fs.length), (40, .int .i64 fs.length), (52, .int .i64 fs.length), (53, .int .i64 i)], [], hU fs, []⟩ : St)) (fun (j : Int) => badShape fs j ≠ none) (fun (j : Int) (st : St) => ResAt 2 1 3 (flt3 3 j ((badShape fs j).getD 0)) st) (AExit.exit 4, (⟨[(0, unit fs), (1, .ptr 0 0 0 1), (2, .ptr 1 0 0 1), (3, .int .i64 t), (10, fns fs), (11, .int .i64 fs.length), (12, .int .i64 fs.length), (39, .int .i64 fs.length), (40, .int .i64 fs.length), (52, .int .i64 fs.length), (53, .int .i64 (fs.length))], [], hU fs, []⟩ : St)) (0) (fs.length) ?_ ?_ ?_ (0) (by omega) (by omega)
  · intro i hi hn hp
    try simp only [Classical.not_not] at hp
    have hl := lp_f3 fs t i .und hi hn hb hs (hs i).2.2.1
    have hp' : badShape fs i = none := (by simpa using hp); unfold badShape at hp'; rw [hp'] at hl
    refine ⟨_, by simp -implicitDefEqProofs +contextual (disch := omega) only [ub_z3f_2, rr_z3f, ↓XD, XU, ↓reduceIte, sevalprocAttr, hU, unit, fns, Fn.cells, nodes, hl, hn, hp]; rfl, by first | (simp [St.next, trim_all]; done) | (simp [St.next, trim_all]; omega) | (simp [St.next, trim, bare, refsL, refs]; done)⟩
  · intro i hi hn hp
    have hl := lp_f3 fs t i .und hi hn hb hs (hs i).2.2.1
    obtain ⟨k, hk⟩ := Option.ne_none_iff_exists'.1 hp; unfold badShape at hk; rw [hk] at hl; obtain ⟨st, hl, hg⟩ := hl
    refine ⟨_, by simp -implicitDefEqProofs +contextual (disch := omega) only [ub_z3f_2, rr_z3f, ↓XD, XU, ↓reduceIte, sevalprocAttr, hU, unit, fns, Fn.cells, nodes, hl, hn, hp]; rfl, by unfold badShape; rw [hk]; exact hg⟩
  · rintro i hi rfl
    refine ⟨by simp -implicitDefEqProofs +contextual (disch := omega) only [ub_z3f_2, rr_z3f, ↓XD, XU, ↓reduceIte, sevalprocAttr, hU, unit, fns, Fn.cells, nodes, Int.lt_irrefl], by simp⟩
def Big (fs : List Fn) : Prop := ((fs.length : Int) = 0 ∨ 300 < (fs.length : Int)) ∨ 3000 < total fs
noncomputable abbrev badHead (fs : List Fn) : Option Int := seek (fun j => ¬Head fs j) 0 fs.length
noncomputable abbrev badShapes (fs : List Fn) : Option Int := seek (fun j => badShape fs j ≠ none) 0 fs.length
noncomputable def first (fs : List Fn) : Int × Int × Int := if Big fs then (1, 0, 0) else match badHead fs with
  | some f => (2, f, 0)
  | none => match badShapes fs with
    | some f => (3, f, (badShape fs f).getD 0)
    | none => (0, 0, 0)
abbrev fl3 (p : Int × Int × Int) : PV := .agg (flt3 p.1 p.2.1 p.2.2)
theorem ep_l3first (fs : List Fn) (hb : fs.length ≤ 1048576) (ht : total fs ≤ 1048576) (hs : SizedF fs) : EP A n_z3f [unit fs] = some (fl3 (first fs)) := by
  obtain ⟨e0, k0⟩ := lp_f0 fs hb ht 0 (by simp [totalN])
  simp only [k0] at e0
  have hT : totalN fs (fs.length : Int).toNat = total fs := by rw [totalN, total]; simp
  rw [hT] at e0
  have e1 := lp_f1 fs (total fs) hb hs
  have e2 := lp_f2 fs (total fs) hb hs
  by_cases hB : Big fs
  · have hB' := hB
    rw [Big] at hB
    simp -implicitDefEqProofs +contextual (disch := omega) only [e_z3f, u_z3f, rr_z3f, unit, fns, ↓XD, XU, ↓reduceIte, sevalprocAttr, ep_l3fault, e0, hB]
    simp [first, hB']
  · have hB' := hB
    rw [Big] at hB
    cases h1 : badHead fs with
    | some f =>
      unfold badHead at h1
      rw [h1] at e1
      obtain ⟨st, e1, g1, g2⟩ := e1
      simp -implicitDefEqProofs +contextual (disch := omega) only [e_z3f, u_z3f, rr_z3f, unit, fns, ↓XD, XU, ↓reduceIte, sevalprocAttr, ep_l3fault, e0, hB, e1, g1, g2]
      simp [first, hB', badHead, h1]
    | none =>
      unfold badHead at h1
      rw [h1] at e1
      cases h2 : badShapes fs with
      | some f =>
        unfold badShapes at h2
        rw [h2] at e2
        obtain ⟨st, e2, g1, g2⟩ := e2
        simp -implicitDefEqProofs +contextual (disch := omega) only [e_z3f, u_z3f, rr_z3f, unit, fns, ↓XD, XU, ↓reduceIte, sevalprocAttr, ep_l3fault, e0, hB, e1, e2, g1, g2]
        simp [first, hB', badHead, h1, badShapes, h2]
      | none =>
        unfold badShapes at h2
        rw [h2] at e2
        simp -implicitDefEqProofs +contextual (disch := omega) only [e_z3f, u_z3f, rr_z3f, unit, fns, ↓XD, XU, ↓reduceIte, sevalprocAttr, ep_l3fault, e0, hB, e1, e2]
        simp [first, hB', badHead, h1, badShapes, h2]
abbrev bad4 (ns : List Node) (n : Int) : Prop := (¬n = (ns.length : Int) - 1 ∧ nth (growP ns) n < 0) ∨ (n = (ns.length : Int) - 1 ∧ (¬nth (growP ns) ((ns.length : Int) - 1) = -1 ∨ ¬(nth ns ((ns.length : Int) - 1)).Kind = 1))
noncomputable abbrev hT (fs : List Fn) (ns : List Node) : Heap := [.cells 1 [[fns fs]], .cells 3 [[.int .i64 0, .int .i64 0, .int .i64 0]], .cells 2 [[ints (growP ns), ints (growD ns)]]]
theorem lp_s1 (fs : List Fn) (ns : List Node) (f : Int) (hb : ns.length ≤ 1048576) (hP : (growP ns).length = ns.length) : match seek (fun (j : Int) => bad4 ns j) 0 ns.length with | some j => ∃ st, EV A (.loop (B_z3s 1)) (⟨[(0, unit fs), (1, .ptr 0 0 0 1), (2, .ptr 1 0 0 1), (13, .int .i64 fs.length), (14, .int .i64 f), (3, .int .i64 f), (4, nodes ns), (5, .ptr 2 0 0 1), (26, .int .i64 ns.length), (27, .int .i64 (0))], [], hT fs ns, []⟩ : St) = some (.ret, st) ∧ ResAt 2 1 3 (flt3 4 f j) st | none => EV A (.loop (B_z3s 1)) (⟨[(0, unit fs), (1, .ptr 0 0 0 1), (2, .ptr 1 0 0 1), (13, .int .i64 fs.length), (14, .int .i64 f), (3, .int .i64 f), (4, nodes ns), (5, .ptr 2 0 0 1), (26, .int .i64 ns.length), (27, .int .i64 (0))], [], hT fs ns, []⟩ : St) = some (AExit.exit 2, (⟨[(0, unit fs), (1, .ptr 0 0 0 1), (2, .ptr 1 0 0 1), (13, .int .i64 fs.length), (14, .int .i64 f), (3, .int .i64 f), (4, nodes ns), (5, .ptr 2 0 0 1), (26, .int .i64 ns.length), (27, .int .i64 (ns.length))], [], hT fs ns, []⟩ : St)) := by
  refine loop_seek (fun i => (⟨[(0, unit fs), (1, .ptr 0 0 0 1), (2, .ptr 1 0 0 1), (13, .int .i64 fs.length), (14, .int .i64 f), (3, .int .i64 f), (4, nodes ns), (5, .ptr 2 0 0 1), (26, .int .i64 ns.length), (27, .int .i64 i)], [], hT fs ns, []⟩ : St)) (fun (j : Int) => bad4 ns j) (fun (j : Int) (st : St) => ResAt 2 1 3 (flt3 4 f j) st) (AExit.exit 2, (⟨[(0, unit fs), (1, .ptr 0 0 0 1), (2, .ptr 1 0 0 1), (13, .int .i64 fs.length), (14, .int .i64 f), (3, .int .i64 f), (4, nodes ns), (5, .ptr 2 0 0 1), (26, .int .i64 ns.length), (27, .int .i64 (ns.length))], [], hT fs ns, []⟩ : St)) (0) (ns.length) ?_ ?_ ?_ (0) (by omega) (by omega)
  · intro i hi hn hp
    try simp only [Classical.not_not] at hp
    simp only [bad4] at hp
    refine ⟨_, by simp -implicitDefEqProofs +contextual (disch := omega) only [ub_z3s_1, rr_z3s, ↓XD, XU, ↓reduceIte, sevalprocAttr, hU, unit, fns, Fn.cells, nodes, Node.cells, ints, ep_l3fault, hP, hn, hp]; rfl, by first | (simp [St.next, trim_all]; done) | (simp [St.next, trim_all]; omega) | (simp [St.next, trim, bare, refsL, refs]; done)⟩
  · intro i hi hn hp
    simp only [bad4] at hp
    refine ⟨_, by simp -implicitDefEqProofs +contextual (disch := omega) only [ub_z3s_1, rr_z3s, ↓XD, XU, ↓reduceIte, sevalprocAttr, hU, unit, fns, Fn.cells, nodes, Node.cells, ints, ep_l3fault, hP, hn, hp]; rfl, by simp [ResAt, Env.get, Env.put]⟩
  · rintro i hi rfl
    refine ⟨by simp -implicitDefEqProofs +contextual (disch := omega) only [ub_z3s_1, rr_z3s, ↓XD, XU, ↓reduceIte, sevalprocAttr, hU, unit, fns, Fn.cells, nodes, Node.cells, ints, ep_l3fault, hP, Int.lt_irrefl], by simp⟩
structure GrowOk (ns : List Node) : Prop where
  hb : ns.length ≤ 1048576
  h1 : 1 ≤ ns.length
  hsz : Sized ns
  hki : KidsIn ns
  hpa : ∀ k : Int, 0 ≤ k → k < ns.length → nth (growP ns) k < ns.length
theorem iter_length {g : Int → List Int → List Int} (hg : ∀ i a, (g i a).length = a.length) : ∀ (m : Nat) (i : Int) (a : List Int), (iter g m i a).length = a.length
  | 0, _, _ => rfl
  | m + 1, i, a => by rw [iter, iter_length hg m, hg]
theorem growP1_length (ns : List Node) : (growP1 ns).length = ns.length := by
  rw [growP1, iter_length (fun i a => iter_length (fun j b => by simp [gKid]) _ _ _), growP0, iter_length (fun i a => by simp)]
  simp
theorem growP_length (ns : List Node) : (growP ns).length = ns.length := by
  rw [growP]; split <;> simp [growP1_length]
theorem growD_length (ns : List Node) : (growD ns).length = ns.length := by
  rw [growD, iter_length (fun i a => by simp only [gDep]; split <;> simp)]; simp
theorem ep_grow {ns : List Node} (h : GrowOk ns) : EP A n_spec_l3grow [nodes ns] = some (.agg [ints (growP ns), ints (growD ns)]) := ep_l3grow ns h.hb h.h1 h.hsz h.hki h.hpa
noncomputable abbrev badPar (fs : List Fn) (j : Int) : Option Int := seek (fun n => bad4 (nth fs j).Nodes n) 0 (nth fs j).Nodes.length
theorem lp_s0 (fs : List Fn) (hb : fs.length ≤ 1048576) (hG : ∀ f : Int, 0 ≤ f → f < fs.length → GrowOk (nth fs f).Nodes) : match seek (fun (j : Int) => badPar fs j ≠ none) 0 fs.length with | some j => ∃ st, EV A (.loop (B_z3s 0)) (⟨[(0, unit fs), (1, .ptr 0 0 0 1), (2, .ptr 1 0 0 1), (13, .int .i64 fs.length), (14, .int .i64 (0))], [], hU fs, []⟩ : St) = some (.ret, st) ∧ ResAt 2 1 3 (flt3 4 j ((badPar fs j).getD 0)) st | none => EV A (.loop (B_z3s 0)) (⟨[(0, unit fs), (1, .ptr 0 0 0 1), (2, .ptr 1 0 0 1), (13, .int .i64 fs.length), (14, .int .i64 (0))], [], hU fs, []⟩ : St) = some (AExit.exit 0, (⟨[(0, unit fs), (1, .ptr 0 0 0 1), (2, .ptr 1 0 0 1), (13, .int .i64 fs.length), (14, .int .i64 (fs.length))], [], hU fs, []⟩ : St)) := by
  refine loop_seek (fun i => (⟨[(0, unit fs), (1, .ptr 0 0 0 1), (2, .ptr 1 0 0 1), (13, .int .i64 fs.length), (14, .int .i64 i)], [], hU fs, []⟩ : St)) (fun (j : Int) => badPar fs j ≠ none) (fun (j : Int) (st : St) => ResAt 2 1 3 (flt3 4 j ((badPar fs j).getD 0)) st) (AExit.exit 0, (⟨[(0, unit fs), (1, .ptr 0 0 0 1), (2, .ptr 1 0 0 1), (13, .int .i64 fs.length), (14, .int .i64 (fs.length))], [], hU fs, []⟩ : St)) (0) (fs.length) ?_ ?_ ?_ (0) (by omega) (by omega)
  · intro i hi hn hp
    try simp only [Classical.not_not] at hp
    have hl := lp_s1 fs (nth fs i).Nodes i (hG i hi hn).hb (growP_length _); have hg := ep_grow (hG i hi hn); simp only [nodes, ints] at hg
    have hp' : badPar fs i = none := (by simpa using hp); unfold badPar at hp'; rw [hp'] at hl
    refine ⟨_, by simp -implicitDefEqProofs +contextual (disch := omega) only [ub_z3s_0, rr_z3s, ↓XD, XU, ↓reduceIte, sevalprocAttr, hU, unit, fns, Fn.cells, nodes, ints, hl, hg, hn, hp]; rfl, by first | (simp [St.next, trim_all]; done) | (simp [St.next, trim_all]; omega) | (simp [St.next, trim, bare, refsL, refs]; done)⟩
  · intro i hi hn hp
    have hl := lp_s1 fs (nth fs i).Nodes i (hG i hi hn).hb (growP_length _); have hg := ep_grow (hG i hi hn); simp only [nodes, ints] at hg
    obtain ⟨k, hk⟩ := Option.ne_none_iff_exists'.1 hp; unfold badPar at hk; rw [hk] at hl; obtain ⟨st, hl, hg2⟩ := hl
    refine ⟨_, by simp -implicitDefEqProofs +contextual (disch := omega) only [ub_z3s_0, rr_z3s, ↓XD, XU, ↓reduceIte, sevalprocAttr, hU, unit, fns, Fn.cells, nodes, ints, hl, hg, hn, hp]; rfl, by unfold badPar; rw [hk]; exact hg2⟩
  · rintro i hi rfl
    refine ⟨by simp -implicitDefEqProofs +contextual (disch := omega) only [ub_z3s_0, rr_z3s, ↓XD, XU, ↓reduceIte, sevalprocAttr, hU, unit, fns, Fn.cells, nodes, ints, Int.lt_irrefl], by simp⟩
abbrev bad5 (ns : List Node) (n : Int) : Prop := 100 < nth (growD ns) n
theorem lp_s3 (fs : List Fn) (ns : List Node) (f : Int) (hb : ns.length ≤ 1048576) (hD : (growD ns).length = ns.length) : match seek (fun (j : Int) => bad5 ns j) 0 ns.length with | some j => ∃ st, EV A (.loop (B_z3s 3)) (⟨[(0, unit fs), (1, .ptr 0 0 0 1), (2, .ptr 1 0 0 1), (13, .int .i64 fs.length), (14, .int .i64 fs.length), (71, .int .i64 fs.length), (72, .int .i64 f), (8, .int .i64 f), (9, .ptr 2 0 0 1), (88, .int .i64 ns.length), (89, .int .i64 (0))], [], hT fs ns, []⟩ : St) = some (.ret, st) ∧ ResAt 2 1 3 (flt3 5 f j) st | none => EV A (.loop (B_z3s 3)) (⟨[(0, unit fs), (1, .ptr 0 0 0 1), (2, .ptr 1 0 0 1), (13, .int .i64 fs.length), (14, .int .i64 fs.length), (71, .int .i64 fs.length), (72, .int .i64 f), (8, .int .i64 f), (9, .ptr 2 0 0 1), (88, .int .i64 ns.length), (89, .int .i64 (0))], [], hT fs ns, []⟩ : St) = some (AExit.exit 6, (⟨[(0, unit fs), (1, .ptr 0 0 0 1), (2, .ptr 1 0 0 1), (13, .int .i64 fs.length), (14, .int .i64 fs.length), (71, .int .i64 fs.length), (72, .int .i64 f), (8, .int .i64 f), (9, .ptr 2 0 0 1), (88, .int .i64 ns.length), (89, .int .i64 (ns.length))], [], hT fs ns, []⟩ : St)) := by
  refine loop_seek (fun i => (⟨[(0, unit fs), (1, .ptr 0 0 0 1), (2, .ptr 1 0 0 1), (13, .int .i64 fs.length), (14, .int .i64 fs.length), (71, .int .i64 fs.length), (72, .int .i64 f), (8, .int .i64 f), (9, .ptr 2 0 0 1), (88, .int .i64 ns.length), (89, .int .i64 i)], [], hT fs ns, []⟩ : St)) (fun (j : Int) => bad5 ns j) (fun (j : Int) (st : St) => ResAt 2 1 3 (flt3 5 f j) st) (AExit.exit 6, (⟨[(0, unit fs), (1, .ptr 0 0 0 1), (2, .ptr 1 0 0 1), (13, .int .i64 fs.length), (14, .int .i64 fs.length), (71, .int .i64 fs.length), (72, .int .i64 f), (8, .int .i64 f), (9, .ptr 2 0 0 1), (88, .int .i64 ns.length), (89, .int .i64 (ns.length))], [], hT fs ns, []⟩ : St)) (0) (ns.length) ?_ ?_ ?_ (0) (by omega) (by omega)
  · intro i hi hn hp
    try simp only [Classical.not_not] at hp
    simp only [bad5] at hp
    refine ⟨_, by simp -implicitDefEqProofs +contextual (disch := omega) only [ub_z3s_3, rr_z3s, ↓XD, XU, ↓reduceIte, sevalprocAttr, hU, unit, fns, Fn.cells, nodes, Node.cells, ints, ep_l3fault, hD, hn, hp]; rfl, by first | (simp [St.next, trim_all]; done) | (simp [St.next, trim_all]; omega) | (simp [St.next, trim, bare, refsL, refs]; done)⟩
  · intro i hi hn hp
    simp only [bad5] at hp
    refine ⟨_, by simp -implicitDefEqProofs +contextual (disch := omega) only [ub_z3s_3, rr_z3s, ↓XD, XU, ↓reduceIte, sevalprocAttr, hU, unit, fns, Fn.cells, nodes, Node.cells, ints, ep_l3fault, hD, hn, hp]; rfl, by simp [ResAt, Env.get, Env.put]⟩
  · rintro i hi rfl
    refine ⟨by simp -implicitDefEqProofs +contextual (disch := omega) only [ub_z3s_3, rr_z3s, ↓XD, XU, ↓reduceIte, sevalprocAttr, hU, unit, fns, Fn.cells, nodes, Node.cells, ints, ep_l3fault, hD, Int.lt_irrefl], by simp⟩
noncomputable abbrev badDep (fs : List Fn) (j : Int) : Option Int := seek (fun n => bad5 (nth fs j).Nodes n) 0 (nth fs j).Nodes.length
theorem lp_s2 (fs : List Fn) (hb : fs.length ≤ 1048576) (hG : ∀ f : Int, 0 ≤ f → f < fs.length → GrowOk (nth fs f).Nodes) : match seek (fun (j : Int) => badDep fs j ≠ none) 0 fs.length with | some j => ∃ st, EV A (.loop (B_z3s 2)) (⟨[(0, unit fs), (1, .ptr 0 0 0 1), (2, .ptr 1 0 0 1), (13, .int .i64 fs.length), (14, .int .i64 fs.length), (71, .int .i64 fs.length), (72, .int .i64 (0))], [], hU fs, []⟩ : St) = some (.ret, st) ∧ ResAt 2 1 3 (flt3 5 j ((badDep fs j).getD 0)) st | none => EV A (.loop (B_z3s 2)) (⟨[(0, unit fs), (1, .ptr 0 0 0 1), (2, .ptr 1 0 0 1), (13, .int .i64 fs.length), (14, .int .i64 fs.length), (71, .int .i64 fs.length), (72, .int .i64 (0))], [], hU fs, []⟩ : St) = some (AExit.exit 4, (⟨[(0, unit fs), (1, .ptr 0 0 0 1), (2, .ptr 1 0 0 1), (13, .int .i64 fs.length), (14, .int .i64 fs.length), (71, .int .i64 fs.length), (72, .int .i64 (fs.length))], [], hU fs, []⟩ : St)) := by
  refine loop_seek (fun i => (⟨[(0, unit fs), (1, .ptr 0 0 0 1), (2, .ptr 1 0 0 1), (13, .int .i64 fs.length), (14, .int .i64 fs.length), (71, .int .i64 fs.length), (72, .int .i64 i)], [], hU fs, []⟩ : St)) (fun (j : Int) => badDep fs j ≠ none) (fun (j : Int) (st : St) => ResAt 2 1 3 (flt3 5 j ((badDep fs j).getD 0)) st) (AExit.exit 4, (⟨[(0, unit fs), (1, .ptr 0 0 0 1), (2, .ptr 1 0 0 1), (13, .int .i64 fs.length), (14, .int .i64 fs.length), (71, .int .i64 fs.length), (72, .int .i64 (fs.length))], [], hU fs, []⟩ : St)) (0) (fs.length) ?_ ?_ ?_ (0) (by omega) (by omega)
  · intro i hi hn hp
    try simp only [Classical.not_not] at hp
    have hl := lp_s3 fs (nth fs i).Nodes i (hG i hi hn).hb (growD_length _); have hg := ep_grow (hG i hi hn); simp only [nodes, ints] at hg
    have hp' : badDep fs i = none := (by simpa using hp); unfold badDep at hp'; rw [hp'] at hl
    refine ⟨_, by simp -implicitDefEqProofs +contextual (disch := omega) only [ub_z3s_2, rr_z3s, ↓XD, XU, ↓reduceIte, sevalprocAttr, hU, unit, fns, Fn.cells, nodes, ints, hl, hg, hn, hp]; rfl, by first | (simp [St.next, trim_all]; done) | (simp [St.next, trim_all]; omega) | (simp [St.next, trim, bare, refsL, refs]; done)⟩
  · intro i hi hn hp
    have hl := lp_s3 fs (nth fs i).Nodes i (hG i hi hn).hb (growD_length _); have hg := ep_grow (hG i hi hn); simp only [nodes, ints] at hg
    obtain ⟨k, hk⟩ := Option.ne_none_iff_exists'.1 hp; unfold badDep at hk; rw [hk] at hl; obtain ⟨st, hl, hg2⟩ := hl
    refine ⟨_, by simp -implicitDefEqProofs +contextual (disch := omega) only [ub_z3s_2, rr_z3s, ↓XD, XU, ↓reduceIte, sevalprocAttr, hU, unit, fns, Fn.cells, nodes, ints, hl, hg, hn, hp]; rfl, by unfold badDep; rw [hk]; exact hg2⟩
  · rintro i hi rfl
    refine ⟨by simp -implicitDefEqProofs +contextual (disch := omega) only [ub_z3s_2, rr_z3s, ↓XD, XU, ↓reduceIte, sevalprocAttr, hU, unit, fns, Fn.cells, nodes, ints, Int.lt_irrefl], by simp⟩
noncomputable abbrev badPars (fs : List Fn) : Option Int := seek (fun j => badPar fs j ≠ none) 0 fs.length
noncomputable abbrev badDeps (fs : List Fn) : Option Int := seek (fun j => badDep fs j ≠ none) 0 fs.length
noncomputable def second (fs : List Fn) : Int × Int × Int := match badPars fs with
  | some f => (4, f, (badPar fs f).getD 0)
  | none => match badDeps fs with
    | some f => (5, f, (badDep fs f).getD 0)
    | none => (0, 0, 0)
theorem ep_l3second (fs : List Fn) (hb : fs.length ≤ 1048576) (hG : ∀ f : Int, 0 ≤ f → f < fs.length → GrowOk (nth fs f).Nodes) : EP A n_z3s [unit fs] = some (fl3 (second fs)) := by
  have e1 := lp_s0 fs hb hG
  have e2 := lp_s2 fs hb hG
  cases h1 : badPars fs with
  | some f =>
    unfold badPars at h1
    rw [h1] at e1
    obtain ⟨st, e1, g1, g2⟩ := e1
    simp -implicitDefEqProofs +contextual (disch := omega) only [e_z3s, u_z3s, rr_z3s, unit, fns, ↓XD, XU, ↓reduceIte, sevalprocAttr, ep_l3fault, e1, g1, g2]
    simp [second, badPars, h1]
  | none =>
    unfold badPars at h1
    rw [h1] at e1
    cases h2 : badDeps fs with
    | some f =>
      unfold badDeps at h2
      rw [h2] at e2
      obtain ⟨st, e2, g1, g2⟩ := e2
      simp -implicitDefEqProofs +contextual (disch := omega) only [e_z3s, u_z3s, rr_z3s, unit, fns, ↓XD, XU, ↓reduceIte, sevalprocAttr, ep_l3fault, e1, e2, g1, g2]
      simp [second, badPars, h1, badDeps, h2]
    | none =>
      unfold badDeps at h2
      rw [h2] at e2
      simp -implicitDefEqProofs +contextual (disch := omega) only [e_z3s, u_z3s, rr_z3s, unit, fns, ↓XD, XU, ↓reduceIte, sevalprocAttr, ep_l3fault, e1, e2]
      simp [second, badPars, h1, badDeps, h2]
end Go.Proofs.Try.Av
end
section
attribute [local congr] ite_congr
set_option maxRecDepth 10000
set_option maxHeartbeats 400000
namespace Go.Proofs.Try.Av
open Go Go.Av Classical
def osl {α : Type} (f : α → List PV) : Option (List α) → PV
  | none => .nils
  | some l => .fz (l.map f)
abbrev ol {α : Type} (o : Option (List α)) : List α := o.getD []
theorem osl_some {α : Type} (f : α → List PV) (l : List α) : osl f (some l) = .fz (l.map f) := rfl
theorem lenV_osl {α : Type} (f : α → List PV) (o : Option (List α)) : lenV (osl f o) = some (.int .i64 (ol o).length) := by cases o <;> simp [osl, lenV, ol]
theorem idx_osl {α : Type} [Inhabited α] (f : α → List PV) (o : Option (List α)) (sz : Nat) (H : Heap) (k : IntKind) (i : Int) (h0 : 0 ≤ i) (h : i < (ol o).length) : indexAV sz H (osl f o) (.int k i) = if (f (nth (ol o) i)).length = sz then some (.fp (f (nth (ol o) i)) 0) else none := by
  cases o with
  | none => simp [ol] at h; omega
  | some l => exact idx_map sz H f l k i h0 h
theorem frz_osl {α : Type} (f : α → List PV) (o : Option (List α)) (d : Nat) (H : Heap) : frz (d + 1) H (osl f o) = osl f o := by cases o <;> rfl
theorem refs_osl {α : Type} (f : α → List PV) (o : Option (List α)) : refs (osl f o) = [] := by cases o <;> simp [osl, refs]
theorem isLeaf_osl {α : Type} (f : α → List PV) (o : Option (List α)) : isLeaf (osl f o) = true := by cases o <;> rfl
theorem cellsOf_osl {α : Type} (f : α → List PV) (o : Option (List α)) : cellsOf (osl f o) = [osl f o] := by cases o <;> rfl
abbrev iv (k : Int) : List PV := [.int .i64 k]
abbrev sv (s : ByteArray) : List PV := [.str s]
structure RNode where
  Kind : Int
  Line : Int
  Op : Int
  Num : Int
  Flt : Nat
  Str : ByteArray
  Refs : Option (List Int)
  Kids : Option (List Int)
  deriving Inhabited
structure RFn where
  Name : ByteArray
  Line : Int
  Params : Int
  Rest : Bool
  Vars : Option (List ByteArray)
  Ups : Option (List Up)
  Nodes : Option (List RNode)
  deriving Inhabited
abbrev RNode.cells (n : RNode) : List PV := [.int .i64 n.Kind, .int .i64 n.Line, .int .i64 n.Op, .int .i64 n.Num, .flt .f64 n.Flt, .str n.Str, osl iv n.Refs, osl iv n.Kids]
abbrev RFn.cells (f : RFn) : List PV := [.str f.Name, .int .i64 f.Line, .int .i64 f.Params, .bool f.Rest, osl sv f.Vars, osl Up.cells f.Ups, osl RNode.cells f.Nodes]
abbrev runit (o : Option (List RFn)) : List PV := [osl RFn.cells o]
def rest (left t : Int) : Int := if left < t then -1 else left - t
theorem el_szIntS (o : Option (List Int)) (left : Int) (h0 : 0 ≤ left) (h1 : left ≤ 1048576) (hb : (ol o).length ≤ 9223372036854775807) : EP A n_laws_szIntS [osl iv o, .int .i64 left] = some (.int .i64 (rest left (ol o).length)) := by
  have e : (left - (ol o).length < 0) = (left < (ol o).length) := by rw [eq_iff_iff]; omega
  simp -implicitDefEqProofs +contextual (disch := omega) only [e_laws_szIntS, u_laws_szIntS, rr_laws_szIntS, lenV_osl, frz_osl, ↓XD, XU, ↓reduceIte, sevalprocAttr]
  simp [rest, e]
theorem el_szUpS (o : Option (List Up)) (left : Int) (h0 : 0 ≤ left) (h1 : left ≤ 1048576) (hb : (ol o).length ≤ 9223372036854775807) : EP A n_laws_szUpS [osl Up.cells o, .int .i64 left] = some (.int .i64 (rest left (ol o).length)) := by
  have e : (left - (ol o).length < 0) = (left < (ol o).length) := by rw [eq_iff_iff]; omega
  simp -implicitDefEqProofs +contextual (disch := omega) only [e_laws_szUpS, u_laws_szUpS, rr_laws_szUpS, lenV_osl, frz_osl, ↓XD, XU, ↓reduceIte, sevalprocAttr]
  simp [rest, e]
theorem el_szNode (n : RNode) (left : Int) (h0 : 0 ≤ left) (h1 : left ≤ 1048576) (hs : n.Str.size ≤ 9223372036854775807) (hb : (ol n.Refs).length ≤ 9223372036854775807) (hb2 : (ol n.Kids).length ≤ 9223372036854775807) : EP A n_laws_szNode [.agg n.cells, .int .i64 left] = some (.int .i64 (rest left (n.Str.size + (ol n.Refs).length + (ol n.Kids).length))) := by
  by_cases c1 : left < n.Str.size
  · have e : left - n.Str.size < 0 := by omega
    simp -implicitDefEqProofs +contextual (disch := omega) only [e_laws_szNode, u_laws_szNode, rr_laws_szNode, RNode.cells, lenV_osl, frz_osl, isLeaf_osl, ↓XD, XU, ↓reduceIte, sevalprocAttr, e]
    simp only [rest]; rw [if_pos (by omega)]
  · have e : ¬left - n.Str.size < 0 := by omega
    have g1 := el_szIntS n.Refs (left - n.Str.size) (by omega) (by omega) hb
    by_cases c2 : left - n.Str.size < (ol n.Refs).length
    · rw [rest, if_pos c2] at g1
      simp -implicitDefEqProofs +contextual (disch := omega) only [e_laws_szNode, u_laws_szNode, rr_laws_szNode, RNode.cells, lenV_osl, frz_osl, refs_osl, isLeaf_osl, ↓XD, XU, ↓reduceIte, sevalprocAttr, e, g1]
      simp only [rest]; rw [if_pos (by omega)]
    · rw [rest, if_neg c2] at g1
      have e2 : ¬left - n.Str.size - (ol n.Refs).length < 0 := by omega
      have g2 := el_szIntS n.Kids (left - n.Str.size - (ol n.Refs).length) (by omega) (by omega) hb2
      by_cases c3 : left - n.Str.size - (ol n.Refs).length < (ol n.Kids).length
      · rw [rest, if_pos c3] at g2
        simp -implicitDefEqProofs +contextual (disch := omega) only [e_laws_szNode, u_laws_szNode, rr_laws_szNode, RNode.cells, lenV_osl, frz_osl, refs_osl, isLeaf_osl, ↓XD, XU, ↓reduceIte, sevalprocAttr, e, e2, g1, g2]
        simp only [rest]; rw [if_pos (by omega)]
      · rw [rest, if_neg c3] at g2
        have e3 : ¬left - n.Str.size - (ol n.Refs).length - (ol n.Kids).length < 0 := by omega
        simp -implicitDefEqProofs +contextual (disch := omega) only [e_laws_szNode, u_laws_szNode, rr_laws_szNode, RNode.cells, lenV_osl, frz_osl, refs_osl, isLeaf_osl, ↓XD, XU, ↓reduceIte, sevalprocAttr, e, e2, e3, g1, g2]
        simp only [rest]; rw [if_neg (by omega)]; congr 2; omega
abbrev gSub (c : Int → Int) (i : Int) (l : Int) : Int ⊕ Unit := if l < c i then .inr () else .inl (l - c i)
def sumTo (c : Int → Int) : Nat → Int → Int
  | 0, _ => 0
  | m + 1, i => c i + sumTo c m (i + 1)
theorem sumTo_nonneg {c : Int → Int} (hc : ∀ i, 0 ≤ c i) : ∀ (m : Nat) (i : Int), 0 ≤ sumTo c m i
  | 0, _ => Int.le_refl 0
  | m + 1, i => by have := hc i; have := sumTo_nonneg hc m (i + 1); rw [sumTo]; omega
theorem sub_run {c : Int → Int} (hc : ∀ i, 0 ≤ c i) : ∀ (m : Nat) (i l : Int), 0 ≤ l → iterx (gSub c) m i l = if l < sumTo c m i then .inr () else .inl (l - sumTo c m i)
  | 0, i, l, h0 => by rw [iterx, sumTo, if_neg (by omega), Int.sub_zero]
  | m + 1, i, l, h0 => by
    have h1 := hc i
    have h2 := sumTo_nonneg hc m (i + 1)
    have e : sumTo c (m + 1) i = c i + sumTo c m (i + 1) := rfl
    rw [iterx, gSub, e]
    by_cases h : l < c i
    · rw [if_pos h, if_pos (by omega)]
    · rw [if_neg h]
      dsimp only
      rw [sub_run hc m (i + 1) (l - c i) (by omega)]
      by_cases h3 : l - c i < sumTo c m (i + 1)
      · rw [if_pos h3, if_pos (by omega)]
      · rw [if_neg h3, if_neg (by omega)]; congr 1; omega
theorem sub_rest {c : Int → Int} (hc : ∀ i, 0 ≤ c i) (m : Nat) (l : Int) (h0 : 0 ≤ l) : (match iterx (gSub c) m 0 l with | .inl a => a | .inr _ => -1) = rest l (sumTo c m 0) := by
  rw [sub_run hc _ _ _ h0, rest]
  by_cases h : l < sumTo c m 0
  · rw [if_pos h, if_pos h]
  · rw [if_neg h, if_neg h]
abbrev cStr (l : List ByteArray) (i : Int) : Int := (nth l i).size
theorem lp_szStr (o : Option (List ByteArray)) (hb : (ol o).length ≤ 1048576) (hs : ∀ i : Int, (nth (ol o) i).size ≤ 9223372036854775807) (a0 : Int) (hok0 : 0 ≤ a0 ∧ a0 ≤ 1048576) : OnSum (fun (a : Int) => EV A (.loop (B_laws_szStringS 0)) (⟨[(0, osl sv o), (1, .int .i64 a0), (4, .int .i64 0), (5, .int .i64 (0))], [], [], []⟩ : St) = some (AExit.exit 0, (⟨[(0, osl sv o), (1, .int .i64 a), (4, .int .i64 0), (5, .int .i64 ((ol o).length))], [], [], []⟩ : St)) ∧ 0 ≤ a ∧ a ≤ 1048576) (fun (r : Unit) => ∃ st, EV A (.loop (B_laws_szStringS 0)) (⟨[(0, osl sv o), (1, .int .i64 a0), (4, .int .i64 0), (5, .int .i64 (0))], [], [], []⟩ : St) = some (.ret, st) ∧ st.per.get 4 = .int .i64 (-1)) (iterx (fun (i : Int) (a : Int) => gSub (cStr (ol o)) i a) (((ol o).length : Int) - 0).toNat (0) a0) := by
  refine loop_iterq (P := A) (body := (B_laws_szStringS 0)) (fun i (a : Int) => (⟨[(0, osl sv o), (1, .int .i64 a), (4, .int .i64 0), (5, .int .i64 i)], [], [], []⟩ : St)) (fun (i : Int) (a : Int) => gSub (cStr (ol o)) i a) (fun i (a : Int) => 0 ≤ a ∧ a ≤ 1048576) (fun a => (AExit.exit 0, (⟨[(0, osl sv o), (1, .int .i64 a), (4, .int .i64 0), (5, .int .i64 ((ol o).length))], [], [], []⟩ : St))) (fun (r : Unit) (st : St) => st.per.get 4 = .int .i64 (-1)) (0) ((ol o).length) ?_ ?_ (0) a0 (by omega) (by omega) hok0
  · intro i a hi hn hok
    have h1 := hs i
    rw [gSub]
    by_cases h : a < cStr (ol o) i
    · rw [if_pos h]
      have e : a - (nth (ol o) i).size < 0 := by simp only [cStr] at h; omega
      refine ⟨_, by (simp -implicitDefEqProofs +contextual (disch := omega) only [ub_laws_szStringS_0, rr_laws_szStringS, lenV_osl, idx_osl, frz_osl, ↓XD, XU, ↓reduceIte, sevalprocAttr, hn, e]) <;> rfl, by simp [Env.get]⟩
    · rw [if_neg h]
      have e : ¬a - (nth (ol o) i).size < 0 := by simp only [cStr] at h; omega
      refine ⟨⟨_, by (simp -implicitDefEqProofs +contextual (disch := omega) only [ub_laws_szStringS_0, rr_laws_szStringS, lenV_osl, idx_osl, frz_osl, ↓XD, XU, ↓reduceIte, sevalprocAttr, hn, e]) <;> rfl, by simp [St.next, trim_all]⟩, by simp only [cStr] at h ⊢; omega⟩
  · rintro i a hi rfl hok
    refine ⟨by simp -implicitDefEqProofs +contextual (disch := omega) only [ub_laws_szStringS_0, rr_laws_szStringS, ↓XD, XU, ↓reduceIte, sevalprocAttr, lenV_osl, Int.lt_irrefl, hok], by simp⟩
theorem el_szStringS (o : Option (List ByteArray)) (left : Int) (h0 : 0 ≤ left) (h1 : left ≤ 1048576) (hb : (ol o).length ≤ 9223372036854775807) (hs : ∀ i : Int, (nth (ol o) i).size ≤ 9223372036854775807) : EP A n_laws_szStringS [osl sv o, .int .i64 left] = some (.int .i64 (rest left ((ol o).length + sumTo (cStr (ol o)) (ol o).length 0))) := by
  have hc : ∀ i, 0 ≤ cStr (ol o) i := fun i => by simp only [cStr]; omega
  have hn := sumTo_nonneg hc (ol o).length 0
  by_cases c1 : left < (ol o).length
  · have e : left - (ol o).length < 0 := by omega
    simp -implicitDefEqProofs +contextual (disch := omega) only [e_laws_szStringS, u_laws_szStringS, rr_laws_szStringS, lenV_osl, frz_osl, ↓XD, XU, ↓reduceIte, sevalprocAttr, e]
    simp only [rest]; rw [if_pos (by omega)]
  · have e : ¬left - (ol o).length < 0 := by omega
    have hl := lp_szStr o (by omega) hs (left - (ol o).length) ⟨by omega, by omega⟩
    have hr := sub_rest hc (ol o).length (left - (ol o).length) (by omega)
    rw [show (((ol o).length : Int) - 0).toNat = (ol o).length by omega] at hl
    cases hi : iterx (gSub (cStr (ol o))) (ol o).length 0 (left - (ol o).length) with
    | inl a =>
      rw [hi] at hl hr
      have hl := hl.1
      simp -implicitDefEqProofs +contextual (disch := omega) only [e_laws_szStringS, u_laws_szStringS, rr_laws_szStringS, lenV_osl, frz_osl, ↓XD, XU, ↓reduceIte, sevalprocAttr, e, hl]
      dsimp only at hr
      rw [hr]; simp only [rest]; congr 2
      split <;> split <;> omega
    | inr u =>
      rw [hi] at hl hr
      obtain ⟨st, hl, g⟩ := hl
      simp -implicitDefEqProofs +contextual (disch := omega) only [e_laws_szStringS, u_laws_szStringS, rr_laws_szStringS, lenV_osl, frz_osl, ↓XD, XU, ↓reduceIte, sevalprocAttr, e, hl, g]
      dsimp only at hr
      have : rest left ((ol o).length + sumTo (cStr (ol o)) (ol o).length 0) = -1 := by rw [hr]; simp only [rest]; split <;> split <;> omega
      rw [this]
def szNode (n : RNode) : Int := n.Str.size + (ol n.Refs).length + (ol n.Kids).length
theorem szNode_nonneg (n : RNode) : 0 ≤ szNode n := by simp only [szNode]; omega
structure NodeB (n : RNode) : Prop where
  s : n.Str.size ≤ 9223372036854775807
  r : (ol n.Refs).length ≤ 9223372036854775807
  k : (ol n.Kids).length ≤ 9223372036854775807
theorem el_szNode' (n : RNode) (left : Int) (h0 : 0 ≤ left) (h1 : left ≤ 1048576) (h : NodeB n) : EP A n_laws_szNode [.agg n.cells, .int .i64 left] = some (.int .i64 (rest left (szNode n))) := el_szNode n left h0 h1 h.s h.r h.k
theorem lp_szNode (o : Option (List RNode)) (hb : (ol o).length ≤ 1048576) (hs : ∀ i : Int, NodeB (nth (ol o) i)) (a0 : Int) (hok0 : 0 ≤ a0 ∧ a0 ≤ 1048576) : OnSum (fun (a : Int) => EV A (.loop (B_laws_szNodeS 0)) (⟨[(0, osl RNode.cells o), (1, .int .i64 a0), (4, .int .i64 0), (5, .int .i64 (0))], [], [], []⟩ : St) = some (AExit.exit 0, (⟨[(0, osl RNode.cells o), (1, .int .i64 a), (4, .int .i64 0), (5, .int .i64 ((ol o).length))], [], [], []⟩ : St)) ∧ 0 ≤ a ∧ a ≤ 1048576) (fun (r : Unit) => ∃ st, EV A (.loop (B_laws_szNodeS 0)) (⟨[(0, osl RNode.cells o), (1, .int .i64 a0), (4, .int .i64 0), (5, .int .i64 (0))], [], [], []⟩ : St) = some (.ret, st) ∧ st.per.get 4 = .int .i64 (-1)) (iterx (fun (i : Int) (a : Int) => gSub (fun k => szNode (nth (ol o) k)) i a) (((ol o).length : Int) - 0).toNat (0) a0) := by
  refine loop_iterq (P := A) (body := (B_laws_szNodeS 0)) (fun i (a : Int) => (⟨[(0, osl RNode.cells o), (1, .int .i64 a), (4, .int .i64 0), (5, .int .i64 i)], [], [], []⟩ : St)) (fun (i : Int) (a : Int) => gSub (fun k => szNode (nth (ol o) k)) i a) (fun i (a : Int) => 0 ≤ a ∧ a ≤ 1048576) (fun a => (AExit.exit 0, (⟨[(0, osl RNode.cells o), (1, .int .i64 a), (4, .int .i64 0), (5, .int .i64 ((ol o).length))], [], [], []⟩ : St))) (fun (r : Unit) (st : St) => st.per.get 4 = .int .i64 (-1)) (0) ((ol o).length) ?_ ?_ (0) a0 (by omega) (by omega) hok0
  · intro i a hi hn hok
    have h1 := el_szNode' (nth (ol o) i) a hok.1 hok.2 (hs i)
    simp only [RNode.cells] at h1
    have h2 := szNode_nonneg (nth (ol o) i)
    rw [gSub]
    by_cases h : a < szNode (nth (ol o) i)
    · rw [if_pos h]
      rw [rest, if_pos h] at h1
      refine ⟨_, by (simp -implicitDefEqProofs +contextual (disch := omega) only [ub_laws_szNodeS_0, rr_laws_szNodeS, lenV_osl, idx_osl, frz_osl, refs_osl, RNode.cells, ↓XD, XU, ↓reduceIte, sevalprocAttr, hn, h1]) <;> rfl, by simp [Env.get]⟩
    · rw [if_neg h]
      rw [rest, if_neg h] at h1
      have e : ¬a - szNode (nth (ol o) i) < 0 := by omega
      refine ⟨⟨_, by (simp -implicitDefEqProofs +contextual (disch := omega) only [ub_laws_szNodeS_0, rr_laws_szNodeS, lenV_osl, idx_osl, frz_osl, refs_osl, RNode.cells, ↓XD, XU, ↓reduceIte, sevalprocAttr, hn, h1, e]) <;> rfl, by simp [St.next, trim_all]⟩, by omega⟩
  · rintro i a hi rfl hok
    refine ⟨by simp -implicitDefEqProofs +contextual (disch := omega) only [ub_laws_szNodeS_0, rr_laws_szNodeS, ↓XD, XU, ↓reduceIte, sevalprocAttr, lenV_osl, Int.lt_irrefl, hok], by simp⟩
def szNodes (l : List RNode) : Int := l.length + sumTo (fun k => szNode (nth l k)) l.length 0
theorem el_szNodeS (o : Option (List RNode)) (left : Int) (h0 : 0 ≤ left) (h1 : left ≤ 1048576) (hb : (ol o).length ≤ 9223372036854775807) (hs : ∀ i : Int, NodeB (nth (ol o) i)) : EP A n_laws_szNodeS [osl RNode.cells o, .int .i64 left] = some (.int .i64 (rest left (szNodes (ol o)))) := by
  have hc : ∀ i, 0 ≤ (fun k => szNode (nth (ol o) k)) i := fun i => szNode_nonneg _
  have hn := sumTo_nonneg hc (ol o).length 0
  rw [szNodes]
  by_cases c1 : left < (ol o).length
  · have e : left - (ol o).length < 0 := by omega
    simp -implicitDefEqProofs +contextual (disch := omega) only [e_laws_szNodeS, u_laws_szNodeS, rr_laws_szNodeS, lenV_osl, frz_osl, ↓XD, XU, ↓reduceIte, sevalprocAttr, e]
    simp only [rest]; rw [if_pos (by omega)]
  · have e : ¬left - (ol o).length < 0 := by omega
    have hl := lp_szNode o (by omega) hs (left - (ol o).length) ⟨by omega, by omega⟩
    have hr := sub_rest hc (ol o).length (left - (ol o).length) (by omega)
    rw [show (((ol o).length : Int) - 0).toNat = (ol o).length by omega] at hl
    cases hi : iterx (gSub (fun k => szNode (nth (ol o) k))) (ol o).length 0 (left - (ol o).length) with
    | inl a =>
      rw [hi] at hl hr
      have hl := hl.1
      simp -implicitDefEqProofs +contextual (disch := omega) only [e_laws_szNodeS, u_laws_szNodeS, rr_laws_szNodeS, lenV_osl, frz_osl, ↓XD, XU, ↓reduceIte, sevalprocAttr, e, hl]
      dsimp only at hr
      rw [hr]; simp only [rest]; congr 2
      split <;> split <;> omega
    | inr u =>
      rw [hi] at hl hr
      obtain ⟨st, hl, g⟩ := hl
      simp -implicitDefEqProofs +contextual (disch := omega) only [e_laws_szNodeS, u_laws_szNodeS, rr_laws_szNodeS, lenV_osl, frz_osl, ↓XD, XU, ↓reduceIte, sevalprocAttr, e, hl, g]
      dsimp only at hr
      have : rest left ((ol o).length + sumTo (fun k => szNode (nth (ol o) k)) (ol o).length 0) = -1 := by rw [hr]; simp only [rest]; split <;> split <;> omega
      rw [this]
structure FnB (f : RFn) : Prop where
  s : f.Name.size ≤ 9223372036854775807
  v : (ol f.Vars).length ≤ 9223372036854775807
  vs : ∀ i : Int, (nth (ol f.Vars) i).size ≤ 9223372036854775807
  u : (ol f.Ups).length ≤ 9223372036854775807
  n : (ol f.Nodes).length ≤ 9223372036854775807
  ns : ∀ i : Int, NodeB (nth (ol f.Nodes) i)
def szStrs (l : List ByteArray) : Int := l.length + sumTo (cStr l) l.length 0
def szFn (f : RFn) : Int := f.Name.size + szStrs (ol f.Vars) + (ol f.Ups).length + szNodes (ol f.Nodes)
theorem szStrs_nonneg (l : List ByteArray) : (l.length : Int) ≤ szStrs l := by
  have := sumTo_nonneg (c := cStr l) (fun i => by simp only [cStr]; omega) l.length 0
  simp only [szStrs]; omega
theorem szNodes_nonneg (l : List RNode) : (l.length : Int) ≤ szNodes l := by
  have := sumTo_nonneg (c := fun k => szNode (nth l k)) (fun i => szNode_nonneg _) l.length 0
  simp only [szNodes]; omega
theorem szFn_nonneg (f : RFn) : 0 ≤ szFn f := by
  have := szStrs_nonneg (ol f.Vars); have := szNodes_nonneg (ol f.Nodes)
  simp only [szFn]; omega
theorem el_szFn (f : RFn) (left : Int) (h0 : 0 ≤ left) (h1 : left ≤ 1048576) (hb : FnB f) : EP A n_laws_szFn [.agg f.cells, .int .i64 left] = some (.int .i64 (rest left (szFn f))) := by
  have n1 := szStrs_nonneg (ol f.Vars)
  have n2 := szNodes_nonneg (ol f.Nodes)
  have b1 := hb.s
  rw [szFn]
  by_cases c1 : left < f.Name.size
  · have e : left - f.Name.size < 0 := by omega
    simp -implicitDefEqProofs +contextual (disch := omega) only [e_laws_szFn, u_laws_szFn, rr_laws_szFn, RFn.cells, lenV_osl, frz_osl, isLeaf_osl, ↓XD, XU, ↓reduceIte, sevalprocAttr, e]
    simp only [rest]; rw [if_pos (by omega)]
  · have e : ¬left - f.Name.size < 0 := by omega
    have g1 := el_szStringS f.Vars (left - f.Name.size) (by omega) (by omega) hb.v hb.vs
    by_cases c2 : left - f.Name.size < szStrs (ol f.Vars)
    · rw [← szStrs, rest, if_pos c2] at g1
      simp -implicitDefEqProofs +contextual (disch := omega) only [e_laws_szFn, u_laws_szFn, rr_laws_szFn, RFn.cells, lenV_osl, frz_osl, refs_osl, isLeaf_osl, ↓XD, XU, ↓reduceIte, sevalprocAttr, e, g1]
      simp only [rest]; rw [if_pos (by omega)]
    · rw [← szStrs, rest, if_neg c2] at g1
      have e2 : ¬left - f.Name.size - szStrs (ol f.Vars) < 0 := by omega
      have g2 := el_szUpS f.Ups (left - f.Name.size - szStrs (ol f.Vars)) (by omega) (by omega) hb.u
      by_cases c3 : left - f.Name.size - szStrs (ol f.Vars) < (ol f.Ups).length
      · rw [rest, if_pos c3] at g2
        simp -implicitDefEqProofs +contextual (disch := omega) only [e_laws_szFn, u_laws_szFn, rr_laws_szFn, RFn.cells, lenV_osl, frz_osl, refs_osl, isLeaf_osl, ↓XD, XU, ↓reduceIte, sevalprocAttr, e, e2, g1, g2]
        simp only [rest]; rw [if_pos (by omega)]
      · rw [rest, if_neg c3] at g2
        have e3 : ¬left - f.Name.size - szStrs (ol f.Vars) - (ol f.Ups).length < 0 := by omega
        have g3 := el_szNodeS f.Nodes (left - f.Name.size - szStrs (ol f.Vars) - (ol f.Ups).length) (by omega) (by omega) hb.n hb.ns
        by_cases c4 : left - f.Name.size - szStrs (ol f.Vars) - (ol f.Ups).length < szNodes (ol f.Nodes)
        · rw [rest, if_pos c4] at g3
          simp -implicitDefEqProofs +contextual (disch := omega) only [e_laws_szFn, u_laws_szFn, rr_laws_szFn, RFn.cells, lenV_osl, frz_osl, refs_osl, isLeaf_osl, ↓XD, XU, ↓reduceIte, sevalprocAttr, e, e2, e3, g1, g2, g3]
          simp only [rest]; rw [if_pos (by omega)]
        · rw [rest, if_neg c4] at g3
          have e4 : ¬left - f.Name.size - szStrs (ol f.Vars) - (ol f.Ups).length - szNodes (ol f.Nodes) < 0 := by omega
          simp -implicitDefEqProofs +contextual (disch := omega) only [e_laws_szFn, u_laws_szFn, rr_laws_szFn, RFn.cells, lenV_osl, frz_osl, refs_osl, isLeaf_osl, ↓XD, XU, ↓reduceIte, sevalprocAttr, e, e2, e3, e4, g1, g2, g3]
          simp only [rest]; rw [if_neg (by omega)]; congr 2; omega
theorem lp_szFn (o : Option (List RFn)) (hb : (ol o).length ≤ 1048576) (hs : ∀ i : Int, FnB (nth (ol o) i)) (a0 : Int) (hok0 : 0 ≤ a0 ∧ a0 ≤ 1048576) : OnSum (fun (a : Int) => EV A (.loop (B_laws_szFnS 0)) (⟨[(0, osl RFn.cells o), (1, .int .i64 a0), (4, .int .i64 0), (5, .int .i64 (0))], [], [], []⟩ : St) = some (AExit.exit 0, (⟨[(0, osl RFn.cells o), (1, .int .i64 a), (4, .int .i64 0), (5, .int .i64 ((ol o).length))], [], [], []⟩ : St)) ∧ 0 ≤ a ∧ a ≤ 1048576) (fun (r : Unit) => ∃ st, EV A (.loop (B_laws_szFnS 0)) (⟨[(0, osl RFn.cells o), (1, .int .i64 a0), (4, .int .i64 0), (5, .int .i64 (0))], [], [], []⟩ : St) = some (.ret, st) ∧ st.per.get 4 = .int .i64 (-1)) (iterx (fun (i : Int) (a : Int) => gSub (fun k => szFn (nth (ol o) k)) i a) (((ol o).length : Int) - 0).toNat (0) a0) := by
  refine loop_iterq (P := A) (body := (B_laws_szFnS 0)) (fun i (a : Int) => (⟨[(0, osl RFn.cells o), (1, .int .i64 a), (4, .int .i64 0), (5, .int .i64 i)], [], [], []⟩ : St)) (fun (i : Int) (a : Int) => gSub (fun k => szFn (nth (ol o) k)) i a) (fun i (a : Int) => 0 ≤ a ∧ a ≤ 1048576) (fun a => (AExit.exit 0, (⟨[(0, osl RFn.cells o), (1, .int .i64 a), (4, .int .i64 0), (5, .int .i64 ((ol o).length))], [], [], []⟩ : St))) (fun (r : Unit) (st : St) => st.per.get 4 = .int .i64 (-1)) (0) ((ol o).length) ?_ ?_ (0) a0 (by omega) (by omega) hok0
  · intro i a hi hn hok
    have h1 := el_szFn (nth (ol o) i) a hok.1 hok.2 (hs i)
    simp only [RFn.cells] at h1
    have h2 := szFn_nonneg (nth (ol o) i)
    rw [gSub]
    by_cases h : a < szFn (nth (ol o) i)
    · rw [if_pos h]
      rw [rest, if_pos h] at h1
      refine ⟨_, by (simp -implicitDefEqProofs +contextual (disch := omega) only [ub_laws_szFnS_0, rr_laws_szFnS, lenV_osl, idx_osl, frz_osl, refs_osl, RFn.cells, ↓XD, XU, ↓reduceIte, sevalprocAttr, hn, h1]) <;> rfl, by simp [Env.get]⟩
    · rw [if_neg h]
      rw [rest, if_neg h] at h1
      have e : ¬a - szFn (nth (ol o) i) < 0 := by omega
      refine ⟨⟨_, by (simp -implicitDefEqProofs +contextual (disch := omega) only [ub_laws_szFnS_0, rr_laws_szFnS, lenV_osl, idx_osl, frz_osl, refs_osl, RFn.cells, ↓XD, XU, ↓reduceIte, sevalprocAttr, hn, h1, e]) <;> rfl, by simp [St.next, trim_all]⟩, by omega⟩
  · rintro i a hi rfl hok
    refine ⟨by simp -implicitDefEqProofs +contextual (disch := omega) only [ub_laws_szFnS_0, rr_laws_szFnS, ↓XD, XU, ↓reduceIte, sevalprocAttr, lenV_osl, Int.lt_irrefl, hok], by simp⟩
def szFns (l : List RFn) : Int := l.length + sumTo (fun k => szFn (nth l k)) l.length 0
theorem el_szFnS (o : Option (List RFn)) (left : Int) (h0 : 0 ≤ left) (h1 : left ≤ 1048576) (hb : (ol o).length ≤ 9223372036854775807) (hs : ∀ i : Int, FnB (nth (ol o) i)) : EP A n_laws_szFnS [osl RFn.cells o, .int .i64 left] = some (.int .i64 (rest left (szFns (ol o)))) := by
  have hc : ∀ i, 0 ≤ (fun k => szFn (nth (ol o) k)) i := fun i => szFn_nonneg _
  have hn := sumTo_nonneg hc (ol o).length 0
  rw [szFns]
  by_cases c1 : left < (ol o).length
  · have e : left - (ol o).length < 0 := by omega
    simp -implicitDefEqProofs +contextual (disch := omega) only [e_laws_szFnS, u_laws_szFnS, rr_laws_szFnS, lenV_osl, frz_osl, ↓XD, XU, ↓reduceIte, sevalprocAttr, e]
    simp only [rest]; rw [if_pos (by omega)]
  · have e : ¬left - (ol o).length < 0 := by omega
    have hl := lp_szFn o (by omega) hs (left - (ol o).length) ⟨by omega, by omega⟩
    have hr := sub_rest hc (ol o).length (left - (ol o).length) (by omega)
    rw [show (((ol o).length : Int) - 0).toNat = (ol o).length by omega] at hl
    cases hi : iterx (gSub (fun k => szFn (nth (ol o) k))) (ol o).length 0 (left - (ol o).length) with
    | inl a =>
      rw [hi] at hl hr
      have hl := hl.1
      simp -implicitDefEqProofs +contextual (disch := omega) only [e_laws_szFnS, u_laws_szFnS, rr_laws_szFnS, lenV_osl, frz_osl, ↓XD, XU, ↓reduceIte, sevalprocAttr, e, hl]
      dsimp only at hr
      rw [hr]; simp only [rest]; congr 2
      split <;> split <;> omega
    | inr u =>
      rw [hi] at hl hr
      obtain ⟨st, hl, g⟩ := hl
      simp -implicitDefEqProofs +contextual (disch := omega) only [e_laws_szFnS, u_laws_szFnS, rr_laws_szFnS, lenV_osl, frz_osl, ↓XD, XU, ↓reduceIte, sevalprocAttr, e, hl, g]
      dsimp only at hr
      have : rest left ((ol o).length + sumTo (fun k => szFn (nth (ol o) k)) (ol o).length 0) = -1 := by rw [hr]; simp only [rest]; split <;> split <;> omega
      rw [this]
theorem el_szUnit (o : Option (List RFn)) (hb : (ol o).length ≤ 9223372036854775807) (hs : ∀ i : Int, FnB (nth (ol o) i)) : EP A n_laws_szUnit [.agg (runit o), .int .i64 1048576] = some (.int .i64 (rest 1048576 (szFns (ol o)))) := by
  have g := el_szFnS o 1048576 (by omega) (by omega) hb hs
  by_cases c : (1048576 : Int) < szFns (ol o)
  · rw [rest, if_pos c] at g ⊢
    simp -implicitDefEqProofs +contextual (disch := omega) only [e_laws_szUnit, u_laws_szUnit, rr_laws_szUnit, runit, lenV_osl, frz_osl, refs_osl, isLeaf_osl, ↓XD, XU, ↓reduceIte, sevalprocAttr, g]
  · rw [rest, if_neg c] at g ⊢
    have e : ¬1048576 - szFns (ol o) < 0 := by omega
    simp -implicitDefEqProofs +contextual (disch := omega) only [e_laws_szUnit, u_laws_szUnit, rr_laws_szUnit, runit, lenV_osl, frz_osl, refs_osl, isLeaf_osl, ↓XD, XU, ↓reduceIte, sevalprocAttr, g, e]
end Go.Proofs.Try.Av
end
section
attribute [local congr] ite_congr
set_option maxRecDepth 10000
set_option maxHeartbeats 4000000
namespace Go.Proofs.Try.Av
open Go Go.Av Classical
abbrev bl (l : List Bool) : List (List PV) := l.map fun b => [.bool b]
noncomputable abbrev gRef (nv : Nat) (refs : List Int) (j : Int) (s : List Bool) : List Bool ⊕ Unit := if nth refs j < 0 ∨ (nv : Int) ≤ nth refs j then .inr () else if nth s (nth refs j) = true then .inr () else .inl (s.set (nth refs j).toNat true)
theorem lp_refs (b0 b1 b2 b3 : Blk) (fs : List Fn) (f : Fn) (pa de : List Int) (a1 : Int) (hb : (nth f.Nodes a1).Refs.length ≤ 1048576) (hv : f.Vars.length ≤ 1048576) (hK : ¬(nth f.Nodes a1).Kind = 26) (a0 : List Bool) (hok0 : a0.length = f.Vars.length) : OnSum (fun (a : List Bool) => EV A (.loop (B_spec_l3refs 0)) (⟨[(0, unit fs), (1, .agg f.cells), (2, .agg [ints pa, ints de]), (3, .int .i64 a1), (4, .sl 4 0 f.Vars.length f.Vars.length), (5, .ptr 5 0 0 1), (6, .ptr 6 0 0 1), (7, .ptr 7 0 0 1), (10, .bool false), (11, .ptr 8 0 0 1), (56, ints (nth f.Nodes a1).Refs), (57, .int .i64 (nth f.Nodes a1).Refs.length), (58, .int .i64 (0))], [], [b0, b1, b2, b3, .cells 1 (bl a0), .cells 1 [[fns fs]], .cells 7 [f.cells], .cells 2 [[ints pa, ints de]], .cells 8 [(nth f.Nodes a1).cells]], []⟩ : St) = some (AExit.exit 0, (⟨[(0, unit fs), (1, .agg f.cells), (2, .agg [ints pa, ints de]), (3, .int .i64 a1), (4, .sl 4 0 f.Vars.length f.Vars.length), (5, .ptr 5 0 0 1), (6, .ptr 6 0 0 1), (7, .ptr 7 0 0 1), (10, .bool false), (11, .ptr 8 0 0 1), (56, ints (nth f.Nodes a1).Refs), (57, .int .i64 (nth f.Nodes a1).Refs.length), (58, .int .i64 ((nth f.Nodes a1).Refs.length))], [], [b0, b1, b2, b3, .cells 1 (bl a), .cells 1 [[fns fs]], .cells 7 [f.cells], .cells 2 [[ints pa, ints de]], .cells 8 [(nth f.Nodes a1).cells]], []⟩ : St)) ∧ a.length = f.Vars.length) (fun (r : Unit) => ∃ st, EV A (.loop (B_spec_l3refs 0)) (⟨[(0, unit fs), (1, .agg f.cells), (2, .agg [ints pa, ints de]), (3, .int .i64 a1), (4, .sl 4 0 f.Vars.length f.Vars.length), (5, .ptr 5 0 0 1), (6, .ptr 6 0 0 1), (7, .ptr 7 0 0 1), (10, .bool false), (11, .ptr 8 0 0 1), (56, ints (nth f.Nodes a1).Refs), (57, .int .i64 (nth f.Nodes a1).Refs.length), (58, .int .i64 (0))], [], [b0, b1, b2, b3, .cells 1 (bl a0), .cells 1 [[fns fs]], .cells 7 [f.cells], .cells 2 [[ints pa, ints de]], .cells 8 [(nth f.Nodes a1).cells]], []⟩ : St) = some (.ret, st) ∧ st.per.get 10 = .bool false ∧ st.ed = [] ∧ ∃ s', st.H.take 5 = [b0, b1, b2, b3, .cells 1 (bl s')]) (iterx (fun (i : Int) (a : List Bool) => gRef f.Vars.length (nth f.Nodes a1).Refs i a) (((nth f.Nodes a1).Refs.length : Int) - 0).toNat (0) a0) := by
  refine loop_iterq (P := A) (body := (B_spec_l3refs 0)) (fun i (a : List Bool) => (⟨[(0, unit fs), (1, .agg f.cells), (2, .agg [ints pa, ints de]), (3, .int .i64 a1), (4, .sl 4 0 f.Vars.length f.Vars.length), (5, .ptr 5 0 0 1), (6, .ptr 6 0 0 1), (7, .ptr 7 0 0 1), (10, .bool false), (11, .ptr 8 0 0 1), (56, ints (nth f.Nodes a1).Refs), (57, .int .i64 (nth f.Nodes a1).Refs.length), (58, .int .i64 i)], [], [b0, b1, b2, b3, .cells 1 (bl a), .cells 1 [[fns fs]], .cells 7 [f.cells], .cells 2 [[ints pa, ints de]], .cells 8 [(nth f.Nodes a1).cells]], []⟩ : St)) (fun (i : Int) (a : List Bool) => gRef f.Vars.length (nth f.Nodes a1).Refs i a) (fun i (a : List Bool) => a.length = f.Vars.length) (fun a => (AExit.exit 0, (⟨[(0, unit fs), (1, .agg f.cells), (2, .agg [ints pa, ints de]), (3, .int .i64 a1), (4, .sl 4 0 f.Vars.length f.Vars.length), (5, .ptr 5 0 0 1), (6, .ptr 6 0 0 1), (7, .ptr 7 0 0 1), (10, .bool false), (11, .ptr 8 0 0 1), (56, ints (nth f.Nodes a1).Refs), (57, .int .i64 (nth f.Nodes a1).Refs.length), (58, .int .i64 ((nth f.Nodes a1).Refs.length))], [], [b0, b1, b2, b3, .cells 1 (bl a), .cells 1 [[fns fs]], .cells 7 [f.cells], .cells 2 [[ints pa, ints de]], .cells 8 [(nth f.Nodes a1).cells]], []⟩ : St))) (fun (r : Unit) (st : St) => st.per.get 10 = .bool false ∧ st.ed = [] ∧ ∃ s', st.H.take 5 = [b0, b1, b2, b3, .cells 1 (bl s')]) (0) ((nth f.Nodes a1).Refs.length) ?_ ?_ (0) a0 (by omega) (by omega) hok0
  · intro i a hi hn hok
    rw [gRef]
    by_cases h1 : nth (nth f.Nodes a1).Refs i < 0 ∨ (f.Vars.length : Int) ≤ nth (nth f.Nodes a1).Refs i
    · rw [if_pos h1]
      refine ⟨_, by simp -implicitDefEqProofs +contextual (disch := omega) only [ub_spec_l3refs_0, rr_spec_l3refs, unit, fns, Fn.cells, Node.cells, ints, nodes, strs, ups, ↓XD, XU, ↓reduceIte, sevalprocAttr, hn, h1, hK, hok]; rfl, by simp [Env.get], rfl, a, by simp⟩
    · rw [if_neg h1]
      by_cases h2 : nth a (nth (nth f.Nodes a1).Refs i) = true
      · rw [if_pos h2]
        refine ⟨_, by simp -implicitDefEqProofs +contextual (disch := omega) only [ub_spec_l3refs_0, rr_spec_l3refs, unit, fns, Fn.cells, Node.cells, ints, nodes, strs, ups, ↓XD, XU, ↓reduceIte, sevalprocAttr, hn, h1, hK, hok, h2]; rfl, by simp [Env.get], rfl, a, by simp⟩
      · rw [if_neg h2]
        refine ⟨⟨_, by simp -implicitDefEqProofs +contextual (disch := omega) only [ub_spec_l3refs_0, rr_spec_l3refs, unit, fns, Fn.cells, Node.cells, ints, nodes, strs, ups, ↓XD, XU, ↓reduceIte, sevalprocAttr, hn, h1, hK, hok, h2]; rfl, by simp [St.next, trim_all]⟩, by simpa using hok⟩
  · rintro i a hi rfl hok
    refine ⟨by simp -implicitDefEqProofs +contextual (disch := omega) only [ub_spec_l3refs_0, rr_spec_l3refs, ↓XD, XU, ↓reduceIte, sevalprocAttr, refsL, Int.lt_irrefl, hok], by simp⟩
noncomputable def refsRes (fs : List Fn) (f : Fn) (pa : List Int) (a : Int) (s : List Bool) : Option (List Bool) :=
  if (nth f.Nodes a).Kind = 27 then (if 0 ≤ nth (nth f.Nodes a).Refs 0 ∧ nth (nth f.Nodes a).Refs 0 < f.Ups.length then some s else none)
  else if (nth f.Nodes a).Kind = 36 then (if 0 ≤ nth (nth f.Nodes a).Refs 0 ∧ nth (nth f.Nodes a).Refs 0 < fs.length then some s else none)
  else if (nth f.Nodes a).Kind = 26 then (if ¬(nth (nth f.Nodes a).Refs 0 < 0 ∨ (f.Vars.length : Int) ≤ nth (nth f.Nodes a).Refs 0) ∧ Visible f pa a (nth (nth f.Nodes a).Refs 0) then some s else none)
  else match iterx (gRef f.Vars.length (nth f.Nodes a).Refs) (((nth f.Nodes a).Refs.length : Int) - 0).toNat 0 s with | .inl s' => some s' | .inr _ => none
theorem es_refs (b0 b1 b2 b3 : Blk) (fs : List Fn) (f : Fn) (pa de : List Int) (a : Int) (h0 : 0 ≤ a) (h1 : a < f.Nodes.length) (hsz : Sized f.Nodes) (hki : KidsIn f.Nodes) (ht : TreeOk f.Nodes pa) (hv : f.Vars.length ≤ 1048576)
    (hr : (nth f.Nodes a).Kind = 26 ∨ (nth f.Nodes a).Kind = 27 ∨ (nth f.Nodes a).Kind = 36 → (nth f.Nodes a).Refs.length = 1) (s : List Bool) (hs : s.length = f.Vars.length) :
    match refsRes fs f pa a s with
    | some s' => ES A n_spec_l3refs [unit fs, .agg f.cells, .agg [ints pa, ints de], .int .i64 a, .sl 4 0 f.Vars.length f.Vars.length] [b0, b1, b2, b3, .cells 1 (bl s)] = some (.bool true, [b0, b1, b2, b3, .cells 1 (bl s')], []) ∧ s'.length = f.Vars.length
    | none => ∃ s', ES A n_spec_l3refs [unit fs, .agg f.cells, .agg [ints pa, ints de], .int .i64 a, .sl 4 0 f.Vars.length f.Vars.length] [b0, b1, b2, b3, .cells 1 (bl s)] = some (.bool false, [b0, b1, b2, b3, .cells 1 (bl s')], []) := by
  have hb := (hsz a).1
  by_cases k1 : (nth f.Nodes a).Kind = 27
  · have hr1 := hr (.inr (.inl k1))
    rw [refsRes, if_pos k1]
    by_cases h2 : 0 ≤ nth (nth f.Nodes a).Refs 0 ∧ nth (nth f.Nodes a).Refs 0 < f.Ups.length
    · rw [if_pos h2]
      refine ⟨?_, hs⟩
      simp -implicitDefEqProofs +contextual (disch := omega) only [s_spec_l3refs, u_spec_l3refs, rr_spec_l3refs, unit, fns, Fn.cells, Node.cells, ints, nodes, strs, ups, ↓XD, XU, ↓reduceIte, sevalprocAttr, k1, h2, trim_take]
    · rw [if_neg h2]
      refine ⟨s, ?_⟩
      simp -implicitDefEqProofs +contextual (disch := omega) only [s_spec_l3refs, u_spec_l3refs, rr_spec_l3refs, unit, fns, Fn.cells, Node.cells, ints, nodes, strs, ups, ↓XD, XU, ↓reduceIte, sevalprocAttr, k1, trim_take]
      rw [← Bool.decide_and, decide_eq_false h2]
  · by_cases k2 : (nth f.Nodes a).Kind = 36
    · have hr1 := hr (.inr (.inr k2))
      rw [refsRes, if_neg k1, if_pos k2]
      by_cases h2 : 0 ≤ nth (nth f.Nodes a).Refs 0 ∧ nth (nth f.Nodes a).Refs 0 < fs.length
      · rw [if_pos h2]
        refine ⟨?_, hs⟩
        simp -implicitDefEqProofs +contextual (disch := omega) only [s_spec_l3refs, u_spec_l3refs, rr_spec_l3refs, unit, fns, Fn.cells, Node.cells, ints, nodes, strs, ups, ↓XD, XU, ↓reduceIte, sevalprocAttr, k2, h2, trim_take]
      · rw [if_neg h2]
        refine ⟨s, ?_⟩
        simp -implicitDefEqProofs +contextual (disch := omega) only [s_spec_l3refs, u_spec_l3refs, rr_spec_l3refs, unit, fns, Fn.cells, Node.cells, ints, nodes, strs, ups, ↓XD, XU, ↓reduceIte, sevalprocAttr, k2, trim_take]
        rw [← Bool.decide_and, decide_eq_false h2]
    · by_cases k3 : (nth f.Nodes a).Kind = 26
      · have hr1 := hr (.inl k3)
        rw [refsRes, if_neg k1, if_neg k2, if_pos k3]
        by_cases h2 : nth (nth f.Nodes a).Refs 0 < 0 ∨ (f.Vars.length : Int) ≤ nth (nth f.Nodes a).Refs 0
        · rw [if_neg (fun h => h.1 h2)]
          have hl : ∃ st, EV A (.loop (B_spec_l3refs 0)) ⟨[(0, unit fs), (1, .agg f.cells), (2, .agg [ints pa, ints de]), (3, .int .i64 a), (4, .sl 4 0 f.Vars.length f.Vars.length), (5, .ptr 5 0 0 1), (6, .ptr 6 0 0 1), (7, .ptr 7 0 0 1), (10, .bool false), (11, .ptr 8 0 0 1), (56, ints (nth f.Nodes a).Refs), (57, .int .i64 (nth f.Nodes a).Refs.length), (58, .int .i64 0)], [], [b0, b1, b2, b3, .cells 1 (bl s), .cells 1 [[fns fs]], .cells 7 [f.cells], .cells 2 [[ints pa, ints de]], .cells 8 [(nth f.Nodes a).cells]], []⟩ = some (.ret, st) ∧ st.per.get 10 = .bool false ∧ st.ed = [] ∧ st.H.take 5 = [b0, b1, b2, b3, .cells 1 (bl s)] := by
            refine ⟨_, by rw [EV_loop]; simp -implicitDefEqProofs +contextual (disch := omega) only [ub_spec_l3refs_0, rr_spec_l3refs, unit, fns, Fn.cells, Node.cells, ints, nodes, strs, ups, ↓XD, XU, ↓reduceIte, sevalprocAttr, k3, h2, hr1, Int.zero_lt_one]; rfl, by simp [Env.get], rfl, by simp⟩
          obtain ⟨st, hl, g1, g2, g3⟩ := hl
          refine ⟨s, ?_⟩
          simp only [Node.cells, k3, hr1, sevalprocAttr] at hl
          simp -implicitDefEqProofs +contextual (disch := omega) only [s_spec_l3refs, u_spec_l3refs, rr_spec_l3refs, unit, fns, Fn.cells, Node.cells, ints, nodes, strs, ups, ↓XD, XU, ↓reduceIte, sevalprocAttr, k3, hl, hr1, g1, g2, g3, trim_take]
        · have hl : ∃ st, EV A (.loop (B_spec_l3refs 0)) ⟨[(0, unit fs), (1, .agg f.cells), (2, .agg [ints pa, ints de]), (3, .int .i64 a), (4, .sl 4 0 f.Vars.length f.Vars.length), (5, .ptr 5 0 0 1), (6, .ptr 6 0 0 1), (7, .ptr 7 0 0 1), (10, .bool false), (11, .ptr 8 0 0 1), (56, ints (nth f.Nodes a).Refs), (57, .int .i64 (nth f.Nodes a).Refs.length), (58, .int .i64 0)], [], [b0, b1, b2, b3, .cells 1 (bl s), .cells 1 [[fns fs]], .cells 7 [f.cells], .cells 2 [[ints pa, ints de]], .cells 8 [(nth f.Nodes a).cells]], []⟩ = some (.ret, st) ∧ st.per.get 10 = .bool (decide (Visible f pa a (nth (nth f.Nodes a).Refs 0))) ∧ st.ed = [] ∧ st.H.take 5 = [b0, b1, b2, b3, .cells 1 (bl s)] := by
            refine ⟨_, by rw [EV_loop]; simp -implicitDefEqProofs +contextual (disch := omega) only [ub_spec_l3refs_0, rr_spec_l3refs, unit, fns, Fn.cells, Node.cells, ints, nodes, strs, ups, ↓XD, XU, ↓reduceIte, sevalprocAttr, k3, h2, hr1, Int.zero_lt_one, ep_l3visible]; rfl, by simp [Env.get], rfl, by simp⟩
          obtain ⟨st, hl, g1, g2, g3⟩ := hl
          simp only [Node.cells, k3, hr1, sevalprocAttr] at hl
          by_cases h3 : Visible f pa a (nth (nth f.Nodes a).Refs 0)
          · rw [if_pos ⟨h2, h3⟩]
            refine ⟨?_, hs⟩
            simp -implicitDefEqProofs +contextual (disch := omega) only [s_spec_l3refs, u_spec_l3refs, rr_spec_l3refs, unit, fns, Fn.cells, Node.cells, ints, nodes, strs, ups, ↓XD, XU, ↓reduceIte, sevalprocAttr, k3, hl, hr1, g1, g2, g3, h3, trim_take]
          · rw [if_neg (fun h => h3 h.2)]
            refine ⟨s, ?_⟩
            simp -implicitDefEqProofs +contextual (disch := omega) only [s_spec_l3refs, u_spec_l3refs, rr_spec_l3refs, unit, fns, Fn.cells, Node.cells, ints, nodes, strs, ups, ↓XD, XU, ↓reduceIte, sevalprocAttr, k3, hl, hr1, g1, g2, g3, h3, trim_take]
      · rw [refsRes, if_neg k1, if_neg k2, if_neg k3]
        have hl := lp_refs b0 b1 b2 b3 fs f pa de a hb hv k3 s hs
        cases hi : iterx (gRef f.Vars.length (nth f.Nodes a).Refs) (((nth f.Nodes a).Refs.length : Int) - 0).toNat 0 s with
        | inl s' =>
          rw [hi] at hl
          obtain ⟨hl, hs'⟩ := hl
          refine ⟨?_, hs'⟩
          simp -implicitDefEqProofs +contextual (disch := omega) only [s_spec_l3refs, u_spec_l3refs, rr_spec_l3refs, unit, fns, Fn.cells, Node.cells, ints, nodes, strs, ups, ↓XD, XU, ↓reduceIte, sevalprocAttr, k1, k2, k3, hl, trim_take]
        | inr u =>
          rw [hi] at hl
          obtain ⟨st, hl, g1, g2, s', g3⟩ := hl
          refine ⟨s', ?_⟩
          simp -implicitDefEqProofs +contextual (disch := omega) only [s_spec_l3refs, u_spec_l3refs, rr_spec_l3refs, unit, fns, Fn.cells, Node.cells, ints, nodes, strs, ups, ↓XD, XU, ↓reduceIte, sevalprocAttr, k1, k2, k3, hl, g1, g2, g3, trim_take]
noncomputable abbrev hF (fs : List Fn) (f : Fn) (l : List Bool) : Heap := [.cells 1 [[fns fs]], .cells 3 [[.int .i64 0, .int .i64 0, .int .i64 0]], .cells 7 [f.cells], .cells 2 [[ints (growP f.Nodes), ints (growD f.Nodes)]], .cells 1 (bl l)]
theorem lp_t1 (fs : List Fn) (f : Fn) (v24 : PV) (r24 : refs v24 = []) (hv : f.Vars.length ≤ 1048576) (hp0 : 0 ≤ f.Params) (hp : f.Params ≤ f.Vars.length) (a0 : List Bool) (hok0 : a0.length = f.Vars.length) : EV A (.loop (B_z3t 1)) (⟨[(0, unit fs), (1, .ptr 0 0 0 1), (2, .ptr 1 0 0 1), (22, fns fs), (23, .int .i64 fs.length), (24, v24), (4, .ptr 2 0 0 1), (3, v24), (5, .ptr 3 0 0 1), (6, .sl 4 0 f.Vars.length f.Vars.length), (7, .int .i64 (0))], [], hF fs f a0, []⟩ : St) = some (AExit.exit 2, (⟨[(0, unit fs), (1, .ptr 0 0 0 1), (2, .ptr 1 0 0 1), (22, fns fs), (23, .int .i64 fs.length), (24, v24), (4, .ptr 2 0 0 1), (3, v24), (5, .ptr 3 0 0 1), (6, .sl 4 0 f.Vars.length f.Vars.length), (7, .int .i64 (f.Params))], [], hF fs f (iter (fun (i : Int) (a : List Bool) => a.set i.toNat true) ((f.Params : Int) - 0).toNat (0) a0), []⟩ : St)) ∧ (iter (fun (i : Int) (a : List Bool) => a.set i.toNat true) ((f.Params : Int) - 0).toNat (0) a0).length = f.Vars.length := by
  refine loop_iter (fun i (a : List Bool) => (⟨[(0, unit fs), (1, .ptr 0 0 0 1), (2, .ptr 1 0 0 1), (22, fns fs), (23, .int .i64 fs.length), (24, v24), (4, .ptr 2 0 0 1), (3, v24), (5, .ptr 3 0 0 1), (6, .sl 4 0 f.Vars.length f.Vars.length), (7, .int .i64 i)], [], hF fs f a, []⟩ : St)) (fun (i : Int) (a : List Bool) => a.set i.toNat true) (fun i (a : List Bool) => a.length = f.Vars.length) (fun a => (AExit.exit 2, (⟨[(0, unit fs), (1, .ptr 0 0 0 1), (2, .ptr 1 0 0 1), (22, fns fs), (23, .int .i64 fs.length), (24, v24), (4, .ptr 2 0 0 1), (3, v24), (5, .ptr 3 0 0 1), (6, .sl 4 0 f.Vars.length f.Vars.length), (7, .int .i64 (f.Params))], [], hF fs f a, []⟩ : St))) (0) (f.Params) ?_ ?_ (0) a0 (by omega) (by omega) hok0
  · intro i a hi hn hok
    refine ⟨⟨_, by simp -implicitDefEqProofs +contextual (disch := omega) only [ub_z3t_1, rr_z3t, ↓XD, XU, ↓reduceIte, sevalprocAttr, hF, unit, fns, Fn.cells, nodes, strs, ups, ints, hn, hok]; rfl, by first | (simp [St.next, trim_all]; done) | (simp [St.next, trim_all]; omega) | (simp [St.next, trim, bare, refsL, refs]; done)⟩, by simp; omega⟩
  · rintro i a hi rfl hok
    refine ⟨by simp -implicitDefEqProofs +contextual (disch := omega) only [ub_z3t_1, rr_z3t, ↓XD, XU, ↓reduceIte, sevalprocAttr, hF, unit, fns, Fn.cells, nodes, strs, ups, ints, Int.lt_irrefl, hok], by simp⟩
noncomputable abbrev gRefs (fs : List Fn) (f : Fn) (n : Int) (s : List Bool) : List Bool ⊕ Int := match refsRes fs f (growP f.Nodes) n s with | some s' => .inl s' | none => .inr n
structure FnOk (f : Fn) : Prop where
  hv : f.Vars.length ≤ 1048576
  hu : f.Ups.length ≤ 1048576
  hp0 : 0 ≤ f.Params
  hp : f.Params ≤ f.Vars.length
  hg : GrowOk f.Nodes
  ht : TreeOk f.Nodes (growP f.Nodes)
  hr : ∀ a : Int, 0 ≤ a → a < f.Nodes.length → (nth f.Nodes a).Kind = 26 ∨ (nth f.Nodes a).Kind = 27 ∨ (nth f.Nodes a).Kind = 36 → (nth f.Nodes a).Refs.length = 1
theorem lp_t2 (fs : List Fn) (f : Fn) (fi : Int) (v7 : PV) (r7 : refs v7 = []) (hf : FnOk f) (a0 : List Bool) (hok0 : a0.length = f.Vars.length) : OnSum (fun (a : List Bool) => EV A (.loop (B_z3t 2)) (⟨[(0, unit fs), (1, .ptr 0 0 0 1), (2, .ptr 1 0 0 1), (22, fns fs), (23, .int .i64 fs.length), (24, .int .i64 fi), (4, .ptr 2 0 0 1), (3, .int .i64 fi), (5, .ptr 3 0 0 1), (6, .sl 4 0 f.Vars.length f.Vars.length), (7, v7), (47, .int .i64 f.Nodes.length), (48, .int .i64 (0))], [], hF fs f a0, []⟩ : St) = some (AExit.exit 4, (⟨[(0, unit fs), (1, .ptr 0 0 0 1), (2, .ptr 1 0 0 1), (22, fns fs), (23, .int .i64 fs.length), (24, .int .i64 fi), (4, .ptr 2 0 0 1), (3, .int .i64 fi), (5, .ptr 3 0 0 1), (6, .sl 4 0 f.Vars.length f.Vars.length), (7, v7), (47, .int .i64 f.Nodes.length), (48, .int .i64 (f.Nodes.length))], [], hF fs f a, []⟩ : St)) ∧ a.length = f.Vars.length) (fun (r : Int) => ∃ st, EV A (.loop (B_z3t 2)) (⟨[(0, unit fs), (1, .ptr 0 0 0 1), (2, .ptr 1 0 0 1), (22, fns fs), (23, .int .i64 fs.length), (24, .int .i64 fi), (4, .ptr 2 0 0 1), (3, .int .i64 fi), (5, .ptr 3 0 0 1), (6, .sl 4 0 f.Vars.length f.Vars.length), (7, v7), (47, .int .i64 f.Nodes.length), (48, .int .i64 (0))], [], hF fs f a0, []⟩ : St) = some (.ret, st) ∧ ResAt 2 1 3 (flt3 6 fi r) st) (iterx (fun (i : Int) (a : List Bool) => gRefs fs f i a) ((f.Nodes.length : Int) - 0).toNat (0) a0) := by
  have hb := hf.hg.hb
  refine loop_iterq (P := A) (body := (B_z3t 2)) (fun i (a : List Bool) => (⟨[(0, unit fs), (1, .ptr 0 0 0 1), (2, .ptr 1 0 0 1), (22, fns fs), (23, .int .i64 fs.length), (24, .int .i64 fi), (4, .ptr 2 0 0 1), (3, .int .i64 fi), (5, .ptr 3 0 0 1), (6, .sl 4 0 f.Vars.length f.Vars.length), (7, v7), (47, .int .i64 f.Nodes.length), (48, .int .i64 i)], [], hF fs f a, []⟩ : St)) (fun (i : Int) (a : List Bool) => gRefs fs f i a) (fun i (a : List Bool) => a.length = f.Vars.length) (fun a => (AExit.exit 4, (⟨[(0, unit fs), (1, .ptr 0 0 0 1), (2, .ptr 1 0 0 1), (22, fns fs), (23, .int .i64 fs.length), (24, .int .i64 fi), (4, .ptr 2 0 0 1), (3, .int .i64 fi), (5, .ptr 3 0 0 1), (6, .sl 4 0 f.Vars.length f.Vars.length), (7, v7), (47, .int .i64 f.Nodes.length), (48, .int .i64 (f.Nodes.length))], [], hF fs f a, []⟩ : St))) (fun (r : Int) (st : St) => ResAt 2 1 3 (flt3 6 fi r) st) (0) (f.Nodes.length) ?_ ?_ (0) a0 (by omega) (by omega) hok0
  · intro i a hi hn hok
    have he := es_refs (.cells 1 [[fns fs]]) (.cells 3 [[.int .i64 0, .int .i64 0, .int .i64 0]]) (.cells 7 [f.cells]) (.cells 2 [[ints (growP f.Nodes), ints (growD f.Nodes)]]) fs f (growP f.Nodes) (growD f.Nodes) i hi hn hf.hg.hsz hf.hg.hki hf.ht hf.hv (hf.hr i hi hn) a hok
    have hb := hf.hg.hb
    rw [gRefs]
    cases hr : refsRes fs f (growP f.Nodes) i a with
    | some s' =>
      rw [hr] at he
      obtain ⟨he, hs'⟩ := he
      simp only [unit, fns, Fn.cells, nodes, strs, ups, ints] at he
      refine ⟨⟨_, by (simp -implicitDefEqProofs +contextual (disch := omega) only [ub_z3t_2, rr_z3t, hF, unit, fns, Fn.cells, nodes, strs, ups, ints, ↓XD, XU, ↓reduceIte, sevalprocAttr, hn, hok, he]) <;> rfl, by simp [St.next, trim_all]⟩, hs'⟩
    | none =>
      rw [hr] at he
      obtain ⟨s', he⟩ := he
      simp only [unit, fns, Fn.cells, nodes, strs, ups, ints] at he
      refine ⟨_, by (simp -implicitDefEqProofs +contextual (disch := omega) only [ub_z3t_2, rr_z3t, hF, unit, fns, Fn.cells, nodes, strs, ups, ints, ↓XD, XU, ↓reduceIte, sevalprocAttr, hn, hok, he, ep_l3fault]) <;> rfl, by simp [ResAt, Env.get, Env.put]⟩
  · rintro i a hi rfl hok
    refine ⟨by simp -implicitDefEqProofs +contextual (disch := omega) only [ub_z3t_2, rr_z3t, ↓XD, XU, ↓reduceIte, sevalprocAttr, refsL, Int.lt_irrefl, hok], by simp⟩
def seen0 (f : Fn) : List Bool := iter (fun i a => a.set i.toNat true) (f.Params - 0).toNat 0 (List.replicate f.Vars.length false)
noncomputable def refsRun (fs : List Fn) (f : Fn) : List Bool ⊕ Int := iterx (gRefs fs f) ((f.Nodes.length : Int) - 0).toNat 0 (seen0 f)
noncomputable def badRef (fs : List Fn) (j : Int) : Option Int := match refsRun fs (nth fs j) with | .inl _ => none | .inr n => some n
theorem lp_t0 (fs : List Fn) (hb : fs.length ≤ 1048576) (hF' : ∀ f : Int, 0 ≤ f → f < fs.length → FnOk (nth fs f)) : match seek (fun (j : Int) => badRef fs j ≠ none) 0 fs.length with | some j => ∃ st, EV A (.loop (B_z3t 0)) (⟨[(0, unit fs), (1, .ptr 0 0 0 1), (2, .ptr 1 0 0 1), (22, fns fs), (23, .int .i64 fs.length), (24, .int .i64 (0))], [], hU fs, []⟩ : St) = some (.ret, st) ∧ ResAt 2 1 3 (flt3 6 j ((badRef fs j).getD 0)) st | none => EV A (.loop (B_z3t 0)) (⟨[(0, unit fs), (1, .ptr 0 0 0 1), (2, .ptr 1 0 0 1), (22, fns fs), (23, .int .i64 fs.length), (24, .int .i64 (0))], [], hU fs, []⟩ : St) = some (AExit.exit 0, (⟨[(0, unit fs), (1, .ptr 0 0 0 1), (2, .ptr 1 0 0 1), (22, fns fs), (23, .int .i64 fs.length), (24, .int .i64 (fs.length))], [], hU fs, []⟩ : St)) := by
  refine loop_seek (fun i => (⟨[(0, unit fs), (1, .ptr 0 0 0 1), (2, .ptr 1 0 0 1), (22, fns fs), (23, .int .i64 fs.length), (24, .int .i64 i)], [], hU fs, []⟩ : St)) (fun (j : Int) => badRef fs j ≠ none) (fun (j : Int) (st : St) => ResAt 2 1 3 (flt3 6 j ((badRef fs j).getD 0)) st) (AExit.exit 0, (⟨[(0, unit fs), (1, .ptr 0 0 0 1), (2, .ptr 1 0 0 1), (22, fns fs), (23, .int .i64 fs.length), (24, .int .i64 (fs.length))], [], hU fs, []⟩ : St)) (0) (fs.length) ?_ ?_ ?_ (0) (by omega) (by omega)
  · intro i hi hn hp
    have hf := hF' i hi hn; have hg := ep_grow hf.hg; simp only [nodes, ints] at hg; have h1 := lp_t1 fs (nth fs i) (.int .i64 i) rfl hf.hv hf.hp0 hf.hp (List.replicate (nth fs i).Vars.length false) (by simp); have hS : seen0 (nth fs i) = iter (fun i a => a.set i.toNat true) ((nth fs i).Params - 0).toNat 0 (List.replicate (nth fs i).Vars.length false) := rfl; rw [← hS] at h1; have h2 := lp_t2 fs (nth fs i) i (.int .i64 (nth fs i).Params) rfl hf (seen0 (nth fs i)) h1.2; have h1 := h1.1; have hb2 := hf.hv; have hR : refsRun fs (nth fs i) = iterx (fun (n : Int) (a : List Bool) => gRefs fs (nth fs i) n a) (((nth fs i).Nodes.length : Int) - 0).toNat 0 (seen0 (nth fs i)) := rfl
    cases hr : refsRun fs (nth fs i) with
    | inr n => exact absurd (by simp [badRef, hr]) hp
    | inl s' =>
      rw [← hR, hr] at h2
      obtain ⟨h2, _⟩ := h2
      refine ⟨_, by (simp -implicitDefEqProofs +contextual (disch := omega) only [ub_z3t_0, rr_z3t, hU, hF, unit, fns, Fn.cells, nodes, strs, ups, ints, ↓XD, XU, ↓reduceIte, sevalprocAttr, hn, hg, h1, h2]) <;> rfl, by simp [St.next, trim, bare, refsL, refs]⟩
  · intro i hi hn hp
    have hf := hF' i hi hn; have hg := ep_grow hf.hg; simp only [nodes, ints] at hg; have h1 := lp_t1 fs (nth fs i) (.int .i64 i) rfl hf.hv hf.hp0 hf.hp (List.replicate (nth fs i).Vars.length false) (by simp); have hS : seen0 (nth fs i) = iter (fun i a => a.set i.toNat true) ((nth fs i).Params - 0).toNat 0 (List.replicate (nth fs i).Vars.length false) := rfl; rw [← hS] at h1; have h2 := lp_t2 fs (nth fs i) i (.int .i64 (nth fs i).Params) rfl hf (seen0 (nth fs i)) h1.2; have h1 := h1.1; have hb2 := hf.hv; have hR : refsRun fs (nth fs i) = iterx (fun (n : Int) (a : List Bool) => gRefs fs (nth fs i) n a) (((nth fs i).Nodes.length : Int) - 0).toNat 0 (seen0 (nth fs i)) := rfl
    cases hr : refsRun fs (nth fs i) with
    | inl s' => exact absurd (by simp [badRef, hr]) hp
    | inr n =>
      rw [← hR, hr] at h2
      obtain ⟨st, h2, hg2⟩ := h2
      refine ⟨_, by (simp -implicitDefEqProofs +contextual (disch := omega) only [ub_z3t_0, rr_z3t, hU, hF, unit, fns, Fn.cells, nodes, strs, ups, ints, ↓XD, XU, ↓reduceIte, sevalprocAttr, hn, hg, h1, h2]) <;> rfl, by simpa [badRef, hr] using hg2⟩
  · rintro i hi rfl
    refine ⟨by simp -implicitDefEqProofs +contextual (disch := omega) only [ub_z3t_0, rr_z3t, ↓XD, XU, ↓reduceIte, sevalprocAttr, hU, unit, fns, Fn.cells, nodes, ints, Int.lt_irrefl], by simp⟩
noncomputable abbrev hG (fs : List Fn) (f : Fn) : Heap := [.cells 1 [[fns fs]], .cells 3 [[.int .i64 0, .int .i64 0, .int .i64 0]], .cells 7 [f.cells], .cells 2 [[ints (growP f.Nodes), ints (growD f.Nodes)]]]
abbrev bad7 (ns : List Node) (pa : List Int) (n : Int) : Prop := ((nth ns n).Kind = 9 ∨ (nth ns n).Kind = 10) ∧ ¬InLoop ns pa n (nth pa n)
theorem lp_t4 (fs : List Fn) (f : Fn) (fi : Int) (hf : FnOk f) : match seek (fun (j : Int) => bad7 f.Nodes (growP f.Nodes) j) 0 f.Nodes.length with | some j => ∃ st, EV A (.loop (B_z3t 4)) (⟨[(0, unit fs), (1, .ptr 0 0 0 1), (2, .ptr 1 0 0 1), (22, fns fs), (23, .int .i64 fs.length), (24, .int .i64 fs.length), (64, fns fs), (65, .int .i64 fs.length), (66, .int .i64 fi), (10, .ptr 2 0 0 1), (9, .int .i64 fi), (11, .ptr 3 0 0 1), (76, .int .i64 f.Nodes.length), (77, .int .i64 (0))], [], hG fs f, []⟩ : St) = some (.ret, st) ∧ ResAt 2 1 3 (flt3 7 fi j) st | none => EV A (.loop (B_z3t 4)) (⟨[(0, unit fs), (1, .ptr 0 0 0 1), (2, .ptr 1 0 0 1), (22, fns fs), (23, .int .i64 fs.length), (24, .int .i64 fs.length), (64, fns fs), (65, .int .i64 fs.length), (66, .int .i64 fi), (10, .ptr 2 0 0 1), (9, .int .i64 fi), (11, .ptr 3 0 0 1), (76, .int .i64 f.Nodes.length), (77, .int .i64 (0))], [], hG fs f, []⟩ : St) = some (AExit.exit 8, (⟨[(0, unit fs), (1, .ptr 0 0 0 1), (2, .ptr 1 0 0 1), (22, fns fs), (23, .int .i64 fs.length), (24, .int .i64 fs.length), (64, fns fs), (65, .int .i64 fs.length), (66, .int .i64 fi), (10, .ptr 2 0 0 1), (9, .int .i64 fi), (11, .ptr 3 0 0 1), (76, .int .i64 f.Nodes.length), (77, .int .i64 (f.Nodes.length))], [], hG fs f, []⟩ : St)) := by
  have hb := hf.hg.hb
  refine loop_seek (fun i => (⟨[(0, unit fs), (1, .ptr 0 0 0 1), (2, .ptr 1 0 0 1), (22, fns fs), (23, .int .i64 fs.length), (24, .int .i64 fs.length), (64, fns fs), (65, .int .i64 fs.length), (66, .int .i64 fi), (10, .ptr 2 0 0 1), (9, .int .i64 fi), (11, .ptr 3 0 0 1), (76, .int .i64 f.Nodes.length), (77, .int .i64 i)], [], hG fs f, []⟩ : St)) (fun (j : Int) => bad7 f.Nodes (growP f.Nodes) j) (fun (j : Int) (st : St) => ResAt 2 1 3 (flt3 7 fi j) st) (AExit.exit 8, (⟨[(0, unit fs), (1, .ptr 0 0 0 1), (2, .ptr 1 0 0 1), (22, fns fs), (23, .int .i64 fs.length), (24, .int .i64 fs.length), (64, fns fs), (65, .int .i64 fs.length), (66, .int .i64 fi), (10, .ptr 2 0 0 1), (9, .int .i64 fi), (11, .ptr 3 0 0 1), (76, .int .i64 f.Nodes.length), (77, .int .i64 (f.Nodes.length))], [], hG fs f, []⟩ : St)) (0) (f.Nodes.length) ?_ ?_ ?_ (0) (by omega) (by omega)
  · intro i hi hn hp
    try simp only [Classical.not_not] at hp
    have hi7 := ep_l3inloop f (growP f.Nodes) (growD f.Nodes) i hi hn hf.hg.hsz hf.ht; simp only [unit, fns, Fn.cells, nodes, strs, ups, ints] at hi7; simp only [bad7] at hp
    refine ⟨_, by simp -implicitDefEqProofs +contextual (disch := omega) only [ub_z3t_4, rr_z3t, ↓XD, XU, ↓reduceIte, sevalprocAttr, hG, unit, fns, Fn.cells, Node.cells, nodes, strs, ups, ints, ep_l3fault, hi7, hn, hp]; rfl, by first | (simp [St.next, trim_all]; done) | (simp [St.next, trim_all]; omega) | (simp [St.next, trim, bare, refsL, refs]; done)⟩
  · intro i hi hn hp
    have hi7 := ep_l3inloop f (growP f.Nodes) (growD f.Nodes) i hi hn hf.hg.hsz hf.ht; simp only [unit, fns, Fn.cells, nodes, strs, ups, ints] at hi7; simp only [bad7] at hp
    refine ⟨_, by simp -implicitDefEqProofs +contextual (disch := omega) only [ub_z3t_4, rr_z3t, ↓XD, XU, ↓reduceIte, sevalprocAttr, hG, unit, fns, Fn.cells, Node.cells, nodes, strs, ups, ints, ep_l3fault, hi7, hn, hp]; rfl, by simp [ResAt, Env.get, Env.put]⟩
  · rintro i hi rfl
    refine ⟨by simp -implicitDefEqProofs +contextual (disch := omega) only [ub_z3t_4, rr_z3t, ↓XD, XU, ↓reduceIte, sevalprocAttr, hG, unit, fns, Fn.cells, Node.cells, nodes, strs, ups, ints, ep_l3fault, Int.lt_irrefl], by simp⟩
noncomputable abbrev badLoop (fs : List Fn) (j : Int) : Option Int := seek (fun n => bad7 (nth fs j).Nodes (growP (nth fs j).Nodes) n) 0 (nth fs j).Nodes.length
theorem lp_t3 (fs : List Fn) (hb : fs.length ≤ 1048576) (hF' : ∀ f : Int, 0 ≤ f → f < fs.length → FnOk (nth fs f)) : match seek (fun (j : Int) => badLoop fs j ≠ none) 0 fs.length with | some j => ∃ st, EV A (.loop (B_z3t 3)) (⟨[(0, unit fs), (1, .ptr 0 0 0 1), (2, .ptr 1 0 0 1), (22, fns fs), (23, .int .i64 fs.length), (24, .int .i64 fs.length), (64, fns fs), (65, .int .i64 fs.length), (66, .int .i64 (0))], [], hU fs, []⟩ : St) = some (.ret, st) ∧ ResAt 2 1 3 (flt3 7 j ((badLoop fs j).getD 0)) st | none => EV A (.loop (B_z3t 3)) (⟨[(0, unit fs), (1, .ptr 0 0 0 1), (2, .ptr 1 0 0 1), (22, fns fs), (23, .int .i64 fs.length), (24, .int .i64 fs.length), (64, fns fs), (65, .int .i64 fs.length), (66, .int .i64 (0))], [], hU fs, []⟩ : St) = some (AExit.exit 6, (⟨[(0, unit fs), (1, .ptr 0 0 0 1), (2, .ptr 1 0 0 1), (22, fns fs), (23, .int .i64 fs.length), (24, .int .i64 fs.length), (64, fns fs), (65, .int .i64 fs.length), (66, .int .i64 (fs.length))], [], hU fs, []⟩ : St)) := by
  refine loop_seek (fun i => (⟨[(0, unit fs), (1, .ptr 0 0 0 1), (2, .ptr 1 0 0 1), (22, fns fs), (23, .int .i64 fs.length), (24, .int .i64 fs.length), (64, fns fs), (65, .int .i64 fs.length), (66, .int .i64 i)], [], hU fs, []⟩ : St)) (fun (j : Int) => badLoop fs j ≠ none) (fun (j : Int) (st : St) => ResAt 2 1 3 (flt3 7 j ((badLoop fs j).getD 0)) st) (AExit.exit 6, (⟨[(0, unit fs), (1, .ptr 0 0 0 1), (2, .ptr 1 0 0 1), (22, fns fs), (23, .int .i64 fs.length), (24, .int .i64 fs.length), (64, fns fs), (65, .int .i64 fs.length), (66, .int .i64 (fs.length))], [], hU fs, []⟩ : St)) (0) (fs.length) ?_ ?_ ?_ (0) (by omega) (by omega)
  · intro i hi hn hp
    try simp only [Classical.not_not] at hp
    have hf := hF' i hi hn; have hg := ep_grow hf.hg; simp only [nodes, ints] at hg; have hl := lp_t4 fs (nth fs i) i hf
    have hp' : badLoop fs i = none := (by simpa using hp); unfold badLoop at hp'; rw [hp'] at hl
    refine ⟨_, by simp -implicitDefEqProofs +contextual (disch := omega) only [ub_z3t_3, rr_z3t, ↓XD, XU, ↓reduceIte, sevalprocAttr, hU, unit, fns, Fn.cells, nodes, ints, hl, hg, hn, hp]; rfl, by first | (simp [St.next, trim_all]; done) | (simp [St.next, trim_all]; omega) | (simp [St.next, trim, bare, refsL, refs]; done)⟩
  · intro i hi hn hp
    have hf := hF' i hi hn; have hg := ep_grow hf.hg; simp only [nodes, ints] at hg; have hl := lp_t4 fs (nth fs i) i hf
    obtain ⟨k, hk⟩ := Option.ne_none_iff_exists'.1 hp; unfold badLoop at hk; rw [hk] at hl; obtain ⟨st, hl, hg2⟩ := hl
    refine ⟨_, by simp -implicitDefEqProofs +contextual (disch := omega) only [ub_z3t_3, rr_z3t, ↓XD, XU, ↓reduceIte, sevalprocAttr, hU, unit, fns, Fn.cells, nodes, ints, hl, hg, hn, hp]; rfl, by unfold badLoop; rw [hk]; exact hg2⟩
  · rintro i hi rfl
    refine ⟨by simp -implicitDefEqProofs +contextual (disch := omega) only [ub_z3t_3, rr_z3t, ↓XD, XU, ↓reduceIte, sevalprocAttr, hU, unit, fns, Fn.cells, nodes, ints, Int.lt_irrefl], by simp⟩
noncomputable abbrev hM (fs : List Fn) (f : Fn) (l : List Bool) : Heap := [.cells 1 [[fns fs]], .cells 3 [[.int .i64 0, .int .i64 0, .int .i64 0]], .cells 1 (bl l), .cells 7 [f.cells], .cells 2 [[ints (growP f.Nodes), ints (growD f.Nodes)]]]
noncomputable abbrev gMade (fs : List Fn) (fi : Int) (n : Int) (s : List Bool) : List Bool ⊕ Int :=
  if (nth (nth fs fi).Nodes n).Kind = 37 ∧ ¬(nth fs fi).Rest = true then .inr n
  else if (nth (nth fs fi).Nodes n).Kind = 36 then
    (if (nth (nth (nth fs fi).Nodes n).Refs 0 ≤ fi ∨ nth s (nth (nth (nth fs fi).Nodes n).Refs 0) = true) ∨ ¬UpsOk fs fi (growP (nth fs fi).Nodes) n (nth (nth (nth fs fi).Nodes n).Refs 0) then .inr n
    else .inl (s.set (nth (nth (nth fs fi).Nodes n).Refs 0).toNat true))
  else .inl s
theorem lp_t6 (fs : List Fn) (fi : Int) (f0 : 0 ≤ fi) (f1 : fi < fs.length) (hb : fs.length ≤ 1048576) (hF' : ∀ f : Int, 0 ≤ f → f < fs.length → FnOk (nth fs f)) (hg : ∀ n : Int, 0 ≤ n → n < (nth fs fi).Nodes.length → (nth (nth fs fi).Nodes n).Kind = 36 → 0 ≤ nth (nth (nth fs fi).Nodes n).Refs 0 ∧ nth (nth (nth fs fi).Nodes n).Refs 0 < fs.length) (a0 : List Bool) (hok0 : a0.length = fs.length) : OnSum (fun (a : List Bool) => EV A (.loop (B_z3t 6)) (⟨[(0, unit fs), (1, .ptr 0 0 0 1), (2, .ptr 1 0 0 1), (22, fns fs), (23, .int .i64 fs.length), (24, .int .i64 fs.length), (64, fns fs), (65, .int .i64 fs.length), (66, .int .i64 fs.length), (14, .sl 2 0 fs.length fs.length), (109, fns fs), (110, .int .i64 fs.length), (111, .int .i64 fi), (16, .ptr 3 0 0 1), (15, .int .i64 fi), (17, .ptr 4 0 0 1), (121, .int .i64 (nth fs fi).Nodes.length), (122, .int .i64 (0))], [], hM fs (nth fs fi) a0, []⟩ : St) = some (AExit.exit 12, (⟨[(0, unit fs), (1, .ptr 0 0 0 1), (2, .ptr 1 0 0 1), (22, fns fs), (23, .int .i64 fs.length), (24, .int .i64 fs.length), (64, fns fs), (65, .int .i64 fs.length), (66, .int .i64 fs.length), (14, .sl 2 0 fs.length fs.length), (109, fns fs), (110, .int .i64 fs.length), (111, .int .i64 fi), (16, .ptr 3 0 0 1), (15, .int .i64 fi), (17, .ptr 4 0 0 1), (121, .int .i64 (nth fs fi).Nodes.length), (122, .int .i64 ((nth fs fi).Nodes.length))], [], hM fs (nth fs fi) a, []⟩ : St)) ∧ a.length = fs.length) (fun (r : Int) => ∃ st, EV A (.loop (B_z3t 6)) (⟨[(0, unit fs), (1, .ptr 0 0 0 1), (2, .ptr 1 0 0 1), (22, fns fs), (23, .int .i64 fs.length), (24, .int .i64 fs.length), (64, fns fs), (65, .int .i64 fs.length), (66, .int .i64 fs.length), (14, .sl 2 0 fs.length fs.length), (109, fns fs), (110, .int .i64 fs.length), (111, .int .i64 fi), (16, .ptr 3 0 0 1), (15, .int .i64 fi), (17, .ptr 4 0 0 1), (121, .int .i64 (nth fs fi).Nodes.length), (122, .int .i64 (0))], [], hM fs (nth fs fi) a0, []⟩ : St) = some (.ret, st) ∧ ResAt 2 1 3 (flt3 8 fi r) st) (iterx (fun (i : Int) (a : List Bool) => gMade fs fi i a) (((nth fs fi).Nodes.length : Int) - 0).toNat (0) a0) := by
  have hb2 := (hF' fi f0 f1).hg.hb
  refine loop_iterq (P := A) (body := (B_z3t 6)) (fun i (a : List Bool) => (⟨[(0, unit fs), (1, .ptr 0 0 0 1), (2, .ptr 1 0 0 1), (22, fns fs), (23, .int .i64 fs.length), (24, .int .i64 fs.length), (64, fns fs), (65, .int .i64 fs.length), (66, .int .i64 fs.length), (14, .sl 2 0 fs.length fs.length), (109, fns fs), (110, .int .i64 fs.length), (111, .int .i64 fi), (16, .ptr 3 0 0 1), (15, .int .i64 fi), (17, .ptr 4 0 0 1), (121, .int .i64 (nth fs fi).Nodes.length), (122, .int .i64 i)], [], hM fs (nth fs fi) a, []⟩ : St)) (fun (i : Int) (a : List Bool) => gMade fs fi i a) (fun i (a : List Bool) => a.length = fs.length) (fun a => (AExit.exit 12, (⟨[(0, unit fs), (1, .ptr 0 0 0 1), (2, .ptr 1 0 0 1), (22, fns fs), (23, .int .i64 fs.length), (24, .int .i64 fs.length), (64, fns fs), (65, .int .i64 fs.length), (66, .int .i64 fs.length), (14, .sl 2 0 fs.length fs.length), (109, fns fs), (110, .int .i64 fs.length), (111, .int .i64 fi), (16, .ptr 3 0 0 1), (15, .int .i64 fi), (17, .ptr 4 0 0 1), (121, .int .i64 (nth fs fi).Nodes.length), (122, .int .i64 ((nth fs fi).Nodes.length))], [], hM fs (nth fs fi) a, []⟩ : St))) (fun (r : Int) (st : St) => ResAt 2 1 3 (flt3 8 fi r) st) (0) ((nth fs fi).Nodes.length) ?_ ?_ (0) a0 (by omega) (by omega) hok0
  · intro i a hi hn hok
    have hf := hF' fi f0 f1
    have hb2 := hf.hg.hb
    have hrl := hf.hr i hi hn
    rw [gMade]
    by_cases h1 : (nth (nth fs fi).Nodes i).Kind = 37 ∧ ¬(nth fs fi).Rest = true
    · rw [if_pos h1]
      refine ⟨_, by (simp -implicitDefEqProofs +contextual (disch := omega) only [ub_z3t_6, rr_z3t, hM, unit, fns, Fn.cells, Node.cells, nodes, strs, ups, ints, ↓XD, XU, ↓reduceIte, sevalprocAttr, hn, hok, h1.1, h1.2, ep_l3fault]) <;> rfl, by simp [ResAt, Env.get, Env.put]⟩
    · rw [if_neg h1]
      by_cases h2 : (nth (nth fs fi).Nodes i).Kind = 36
      · rw [if_pos h2]
        have hg1 := hg i hi hn h2
        have hr1 := hrl (.inr (.inr h2))
        have hu := ep_l3ups fs fi (growP (nth fs fi).Nodes) (growD (nth fs fi).Nodes) i (nth (nth (nth fs fi).Nodes i).Refs 0) hg1.1 hg1.2 f0 f1 hi hn (hF' _ hg1.1 hg1.2).hu hf.hg.hsz hf.hg.hki hf.ht
        simp only [unit, fns, Fn.cells, nodes, strs, ups, ints] at hu
        by_cases h3 : (nth (nth (nth fs fi).Nodes i).Refs 0 ≤ fi ∨ nth a (nth (nth (nth fs fi).Nodes i).Refs 0) = true) ∨ ¬UpsOk fs fi (growP (nth fs fi).Nodes) i (nth (nth (nth fs fi).Nodes i).Refs 0)
        · rw [if_pos h3]
          refine ⟨_, by (simp -implicitDefEqProofs +contextual (disch := omega) only [ub_z3t_6, rr_z3t, hM, unit, fns, Fn.cells, Node.cells, nodes, strs, ups, ints, ↓XD, XU, ↓reduceIte, sevalprocAttr, hn, hok, h2, h3, hu, hr1, ep_l3fault]) <;> rfl, by simp [ResAt, Env.get, Env.put]⟩
        · rw [if_neg h3]
          refine ⟨⟨_, by (simp -implicitDefEqProofs +contextual (disch := omega) only [ub_z3t_6, rr_z3t, hM, unit, fns, Fn.cells, Node.cells, nodes, strs, ups, ints, ↓XD, XU, ↓reduceIte, sevalprocAttr, hn, hok, h2, h3, hu, hr1]) <;> rfl, by simp [St.next, trim_all]⟩, by simpa using hok⟩
      · rw [if_neg h2]
        refine ⟨⟨_, by (simp -implicitDefEqProofs +contextual (disch := omega) only [ub_z3t_6, rr_z3t, hM, unit, fns, Fn.cells, Node.cells, nodes, strs, ups, ints, ↓XD, XU, ↓reduceIte, sevalprocAttr, hn, hok, h1, h2]) <;> rfl, by simp [St.next, trim_all]⟩, hok⟩
  · rintro i a hi rfl hok
    refine ⟨by simp -implicitDefEqProofs +contextual (disch := omega) only [ub_z3t_6, rr_z3t, ↓XD, XU, ↓reduceIte, sevalprocAttr, refsL, Int.lt_irrefl, hok], by simp⟩
noncomputable def madeIn (fs : List Fn) (fi : Int) (s : List Bool) : List Bool ⊕ Int := iterx (gMade fs fi) (((nth fs fi).Nodes.length : Int) - 0).toNat 0 s
noncomputable abbrev gMades (fs : List Fn) (fi : Int) (s : List Bool) : List Bool ⊕ (Int × Int) := match madeIn fs fi s with | .inl s' => .inl s' | .inr n => .inr (fi, n)
theorem lp_t5 (fs : List Fn) (hb : fs.length ≤ 1048576) (hF' : ∀ f : Int, 0 ≤ f → f < fs.length → FnOk (nth fs f)) (hR : ∀ f : Int, 0 ≤ f → f < fs.length → ∀ n : Int, 0 ≤ n → n < (nth fs f).Nodes.length → (nth (nth fs f).Nodes n).Kind = 36 → 0 ≤ nth (nth (nth fs f).Nodes n).Refs 0 ∧ nth (nth (nth fs f).Nodes n).Refs 0 < fs.length) (a0 : List Bool) (hok0 : a0.length = fs.length) : OnSum (fun (a : List Bool) => EV A (.loop (B_z3t 5)) (⟨[(0, unit fs), (1, .ptr 0 0 0 1), (2, .ptr 1 0 0 1), (22, fns fs), (23, .int .i64 fs.length), (24, .int .i64 fs.length), (64, fns fs), (65, .int .i64 fs.length), (66, .int .i64 fs.length), (14, .sl 2 0 fs.length fs.length), (109, fns fs), (110, .int .i64 fs.length), (111, .int .i64 (0))], [], [.cells 1 [[fns fs]], .cells 3 [[.int .i64 0, .int .i64 0, .int .i64 0]], .cells 1 (bl a0)], []⟩ : St) = some (AExit.exit 10, (⟨[(0, unit fs), (1, .ptr 0 0 0 1), (2, .ptr 1 0 0 1), (22, fns fs), (23, .int .i64 fs.length), (24, .int .i64 fs.length), (64, fns fs), (65, .int .i64 fs.length), (66, .int .i64 fs.length), (14, .sl 2 0 fs.length fs.length), (109, fns fs), (110, .int .i64 fs.length), (111, .int .i64 (fs.length))], [], [.cells 1 [[fns fs]], .cells 3 [[.int .i64 0, .int .i64 0, .int .i64 0]], .cells 1 (bl a)], []⟩ : St)) ∧ a.length = fs.length) (fun (r : Int × Int) => ∃ st, EV A (.loop (B_z3t 5)) (⟨[(0, unit fs), (1, .ptr 0 0 0 1), (2, .ptr 1 0 0 1), (22, fns fs), (23, .int .i64 fs.length), (24, .int .i64 fs.length), (64, fns fs), (65, .int .i64 fs.length), (66, .int .i64 fs.length), (14, .sl 2 0 fs.length fs.length), (109, fns fs), (110, .int .i64 fs.length), (111, .int .i64 (0))], [], [.cells 1 [[fns fs]], .cells 3 [[.int .i64 0, .int .i64 0, .int .i64 0]], .cells 1 (bl a0)], []⟩ : St) = some (.ret, st) ∧ ResAt 2 1 3 (flt3 8 r.1 r.2) st) (iterx (fun (i : Int) (a : List Bool) => gMades fs i a) ((fs.length : Int) - 0).toNat (0) a0) := by
  refine loop_iterq (P := A) (body := (B_z3t 5)) (fun i (a : List Bool) => (⟨[(0, unit fs), (1, .ptr 0 0 0 1), (2, .ptr 1 0 0 1), (22, fns fs), (23, .int .i64 fs.length), (24, .int .i64 fs.length), (64, fns fs), (65, .int .i64 fs.length), (66, .int .i64 fs.length), (14, .sl 2 0 fs.length fs.length), (109, fns fs), (110, .int .i64 fs.length), (111, .int .i64 i)], [], [.cells 1 [[fns fs]], .cells 3 [[.int .i64 0, .int .i64 0, .int .i64 0]], .cells 1 (bl a)], []⟩ : St)) (fun (i : Int) (a : List Bool) => gMades fs i a) (fun i (a : List Bool) => a.length = fs.length) (fun a => (AExit.exit 10, (⟨[(0, unit fs), (1, .ptr 0 0 0 1), (2, .ptr 1 0 0 1), (22, fns fs), (23, .int .i64 fs.length), (24, .int .i64 fs.length), (64, fns fs), (65, .int .i64 fs.length), (66, .int .i64 fs.length), (14, .sl 2 0 fs.length fs.length), (109, fns fs), (110, .int .i64 fs.length), (111, .int .i64 (fs.length))], [], [.cells 1 [[fns fs]], .cells 3 [[.int .i64 0, .int .i64 0, .int .i64 0]], .cells 1 (bl a)], []⟩ : St))) (fun (r : Int × Int) (st : St) => ResAt 2 1 3 (flt3 8 r.1 r.2) st) (0) (fs.length) ?_ ?_ (0) a0 (by omega) (by omega) hok0
  · intro i a hi hn hok
    have hf := hF' i hi hn
    have hg := ep_grow hf.hg
    simp only [nodes, ints] at hg
    have h2 := lp_t6 fs i hi hn hb hF' (hR i hi hn) a hok
    have hI : madeIn fs i a = iterx (fun (n : Int) (a : List Bool) => gMade fs i n a) (((nth fs i).Nodes.length : Int) - 0).toNat 0 a := rfl
    rw [← hI] at h2
    rw [gMades]
    cases hr : madeIn fs i a with
    | inl s' =>
      rw [hr] at h2
      obtain ⟨h2, hs'⟩ := h2
      refine ⟨⟨_, by (simp -implicitDefEqProofs +contextual (disch := omega) only [ub_z3t_5, rr_z3t, hU, hM, unit, fns, Fn.cells, nodes, strs, ups, ints, ↓XD, XU, ↓reduceIte, sevalprocAttr, hn, hg, h2, hok]) <;> rfl, by simp [St.next, trim, bare, refsL, refs]⟩, hs'⟩
    | inr n =>
      rw [hr] at h2
      obtain ⟨st, h2, hg2⟩ := h2
      exact ⟨_, by (simp -implicitDefEqProofs +contextual (disch := omega) only [ub_z3t_5, rr_z3t, hU, hM, unit, fns, Fn.cells, nodes, strs, ups, ints, ↓XD, XU, ↓reduceIte, sevalprocAttr, hn, hg, h2, hok]) <;> rfl, hg2⟩
  · rintro i a hi rfl hok
    refine ⟨by simp -implicitDefEqProofs +contextual (disch := omega) only [ub_z3t_5, rr_z3t, ↓XD, XU, ↓reduceIte, sevalprocAttr, refsL, Int.lt_irrefl, hok], by simp⟩
theorem lp_t7 (fs : List Fn) (l : List Bool) (hb : fs.length ≤ 1048576) (h1 : 1 ≤ fs.length) (hl : l.length = fs.length) : match seek (fun (j : Int) => ¬nth l j = true) 1 fs.length with | some j => ∃ st, EV A (.loop (B_z3t 7)) (⟨[(0, unit fs), (1, .ptr 0 0 0 1), (2, .ptr 1 0 0 1), (22, fns fs), (23, .int .i64 fs.length), (24, .int .i64 fs.length), (64, fns fs), (65, .int .i64 fs.length), (66, .int .i64 fs.length), (14, .sl 2 0 fs.length fs.length), (109, fns fs), (110, .int .i64 fs.length), (111, .int .i64 fs.length), (20, .int .i64 (1))], [], [.cells 1 [[fns fs]], .cells 3 [[.int .i64 0, .int .i64 0, .int .i64 0]], .cells 1 (bl l)], []⟩ : St) = some (.ret, st) ∧ ResAt 2 1 3 (flt3 9 j 0) st | none => EV A (.loop (B_z3t 7)) (⟨[(0, unit fs), (1, .ptr 0 0 0 1), (2, .ptr 1 0 0 1), (22, fns fs), (23, .int .i64 fs.length), (24, .int .i64 fs.length), (64, fns fs), (65, .int .i64 fs.length), (66, .int .i64 fs.length), (14, .sl 2 0 fs.length fs.length), (109, fns fs), (110, .int .i64 fs.length), (111, .int .i64 fs.length), (20, .int .i64 (1))], [], [.cells 1 [[fns fs]], .cells 3 [[.int .i64 0, .int .i64 0, .int .i64 0]], .cells 1 (bl l)], []⟩ : St) = some (AExit.exit 14, (⟨[(0, unit fs), (1, .ptr 0 0 0 1), (2, .ptr 1 0 0 1), (22, fns fs), (23, .int .i64 fs.length), (24, .int .i64 fs.length), (64, fns fs), (65, .int .i64 fs.length), (66, .int .i64 fs.length), (14, .sl 2 0 fs.length fs.length), (109, fns fs), (110, .int .i64 fs.length), (111, .int .i64 fs.length), (20, .int .i64 (fs.length))], [], [.cells 1 [[fns fs]], .cells 3 [[.int .i64 0, .int .i64 0, .int .i64 0]], .cells 1 (bl l)], []⟩ : St)) := by
  refine loop_seek (fun i => (⟨[(0, unit fs), (1, .ptr 0 0 0 1), (2, .ptr 1 0 0 1), (22, fns fs), (23, .int .i64 fs.length), (24, .int .i64 fs.length), (64, fns fs), (65, .int .i64 fs.length), (66, .int .i64 fs.length), (14, .sl 2 0 fs.length fs.length), (109, fns fs), (110, .int .i64 fs.length), (111, .int .i64 fs.length), (20, .int .i64 i)], [], [.cells 1 [[fns fs]], .cells 3 [[.int .i64 0, .int .i64 0, .int .i64 0]], .cells 1 (bl l)], []⟩ : St)) (fun (j : Int) => ¬nth l j = true) (fun (j : Int) (st : St) => ResAt 2 1 3 (flt3 9 j 0) st) (AExit.exit 14, (⟨[(0, unit fs), (1, .ptr 0 0 0 1), (2, .ptr 1 0 0 1), (22, fns fs), (23, .int .i64 fs.length), (24, .int .i64 fs.length), (64, fns fs), (65, .int .i64 fs.length), (66, .int .i64 fs.length), (14, .sl 2 0 fs.length fs.length), (109, fns fs), (110, .int .i64 fs.length), (111, .int .i64 fs.length), (20, .int .i64 (fs.length))], [], [.cells 1 [[fns fs]], .cells 3 [[.int .i64 0, .int .i64 0, .int .i64 0]], .cells 1 (bl l)], []⟩ : St)) (1) (fs.length) ?_ ?_ ?_ (1) (by omega) (by omega)
  · intro i hi hn hp
    try simp only [Classical.not_not] at hp
    refine ⟨_, by simp -implicitDefEqProofs +contextual (disch := omega) only [ub_z3t_7, rr_z3t, ↓XD, XU, ↓reduceIte, sevalprocAttr, unit, fns, ep_l3fault, hl, hn, hp]; rfl, by first | (simp [St.next, trim_all]; done) | (simp [St.next, trim_all]; omega) | (simp [St.next, trim, bare, refsL, refs]; done)⟩
  · intro i hi hn hp
    refine ⟨_, by simp -implicitDefEqProofs +contextual (disch := omega) only [ub_z3t_7, rr_z3t, ↓XD, XU, ↓reduceIte, sevalprocAttr, unit, fns, ep_l3fault, hl, hn, hp]; rfl, by simp [ResAt, Env.get, Env.put]⟩
  · rintro i hi rfl
    refine ⟨by simp -implicitDefEqProofs +contextual (disch := omega) only [ub_z3t_7, rr_z3t, ↓XD, XU, ↓reduceIte, sevalprocAttr, unit, fns, ep_l3fault, hl, Int.lt_irrefl], by simp⟩
noncomputable abbrev badRefs (fs : List Fn) : Option Int := seek (fun j => badRef fs j ≠ none) 0 fs.length
noncomputable abbrev badLoops (fs : List Fn) : Option Int := seek (fun j => badLoop fs j ≠ none) 0 fs.length
noncomputable def madeAll (fs : List Fn) : List Bool ⊕ (Int × Int) := iterx (gMades fs) ((fs.length : Int) - 0).toNat 0 (List.replicate fs.length false)
noncomputable def third (fs : List Fn) : Int × Int × Int := match badRefs fs with
  | some f => (6, f, (badRef fs f).getD 0)
  | none => match badLoops fs with
    | some f => (7, f, (badLoop fs f).getD 0)
    | none => match madeAll fs with
      | .inr r => (8, r.1, r.2)
      | .inl l => match seek (fun j => ¬nth l j = true) 1 fs.length with
        | some f => (9, f, 0)
        | none => (0, 0, 0)
theorem refs_fine {fs : List Fn} (h : badRefs fs = none) : ∀ f : Int, 0 ≤ f → f < fs.length → ∀ n : Int, 0 ≤ n → n < (nth fs f).Nodes.length → (nth (nth fs f).Nodes n).Kind = 36 → 0 ≤ nth (nth (nth fs f).Nodes n).Refs 0 ∧ nth (nth (nth fs f).Nodes n).Refs 0 < fs.length := by
  intro f f0 f1 n n0 n1 hk
  have h1 := seek_none.1 h f f0 f1
  have h1 : badRef fs f = none := by simpa using h1
  by_cases hc : 0 ≤ nth (nth (nth fs f).Nodes n).Refs 0 ∧ nth (nth (nth fs f).Nodes n).Refs 0 < fs.length
  · exact hc
  · exfalso
    have hx : ∀ s, gRefs fs (nth fs f) n s = .inr n := fun s => by
      simp [gRefs, refsRes, hk, hc]
    have : ∀ (m : Nat) (i : Int) (s : List Bool), i ≤ n → n < i + m → ∃ r, iterx (gRefs fs (nth fs f)) m i s = .inr r := by
      intro m
      induction m with
      | zero => intro i s h1 h2; omega
      | succ m ih =>
        intro i s h1 h2
        rw [iterx]
        cases hg : gRefs fs (nth fs f) i s with
        | inr r => exact ⟨r, rfl⟩
        | inl s' =>
          by_cases he : i = n
          · subst he; rw [hx] at hg; cases hg
          · exact ih (i + 1) s' (by omega) (by omega)
    obtain ⟨r, hr⟩ := this (((nth fs f).Nodes.length : Int) - 0).toNat 0 (seen0 (nth fs f)) n0 (by omega)
    rw [badRef, refsRun, hr] at h1
    cases h1
theorem ep_l3third (fs : List Fn) (hb : fs.length ≤ 1048576) (h1 : 1 ≤ fs.length) (hF' : ∀ f : Int, 0 ≤ f → f < fs.length → FnOk (nth fs f)) : EP A n_z3t [unit fs] = some (fl3 (third fs)) := by
  have e0 := lp_t0 fs hb hF'
  have e3 := lp_t3 fs hb hF'
  rw [third]
  cases k1 : badRefs fs with
  | some f =>
    unfold badRefs at k1
    rw [k1] at e0
    obtain ⟨st, e0, g1, g2⟩ := e0
    simp -implicitDefEqProofs +contextual (disch := omega) only [e_z3t, u_z3t, rr_z3t, hU, unit, fns, ↓XD, XU, ↓reduceIte, sevalprocAttr, ep_l3fault, e0, g1, g2]
  | none =>
    have hR := refs_fine k1
    unfold badRefs at k1
    rw [k1] at e0
    dsimp only at e0 ⊢
    cases k2 : badLoops fs with
    | some f =>
      unfold badLoops at k2
      rw [k2] at e3
      obtain ⟨st, e3, g1, g2⟩ := e3
      simp -implicitDefEqProofs +contextual (disch := omega) only [e_z3t, u_z3t, rr_z3t, hU, unit, fns, ↓XD, XU, ↓reduceIte, sevalprocAttr, ep_l3fault, e0, e3, g1, g2]
    | none =>
      unfold badLoops at k2
      rw [k2] at e3
      dsimp only at e3 ⊢
      have e5 := lp_t5 fs hb hF' hR (List.replicate fs.length false) (by simp)
      have hI : madeAll fs = iterx (fun (f : Int) (a : List Bool) => gMades fs f a) ((fs.length : Int) - 0).toNat 0 (List.replicate fs.length false) := rfl
      rw [← hI] at e5
      cases k3 : madeAll fs with
      | inr r =>
        rw [k3] at e5
        obtain ⟨st, e5, g1, g2⟩ := e5
        simp only [bl] at e5
        simp -implicitDefEqProofs +contextual (disch := omega) only [e_z3t, u_z3t, rr_z3t, hU, unit, fns, ↓XD, XU, ↓reduceIte, sevalprocAttr, ep_l3fault, e0, e3, e5, g1, g2]
      | inl l =>
        rw [k3] at e5
        obtain ⟨e5, hl⟩ := e5
        simp only [bl] at e5
        have e7 := lp_t7 fs l hb h1 hl
        dsimp only
        cases k4 : seek (fun j => ¬nth l j = true) 1 fs.length with
        | some f =>
          rw [k4] at e7
          obtain ⟨st, e7, g1, g2⟩ := e7
          simp -implicitDefEqProofs +contextual (disch := omega) only [e_z3t, u_z3t, rr_z3t, hU, unit, fns, ↓XD, XU, ↓reduceIte, sevalprocAttr, ep_l3fault, e0, e3, e5, e7, g1, g2]
        | none =>
          rw [k4] at e7
          simp -implicitDefEqProofs +contextual (disch := omega) only [e_z3t, u_z3t, rr_z3t, hU, unit, fns, ↓XD, XU, ↓reduceIte, sevalprocAttr, ep_l3fault, e0, e3, e5, e7]
noncomputable def specFault (fs : List Fn) : Int × Int × Int := if (first fs).1 ≠ 0 then first fs else if (second fs).1 ≠ 0 then second fs else third fs
end Go.Proofs.Try.Av
end
section
namespace Go.Proofs.Try.Av
open Go Go.Av Classical
theorem iter_inv {σ : Type} {g : Int → σ → σ} (I : Int → σ → Prop) (lo n : Int) (h : ∀ i a, lo ≤ i → i < n → I i a → I (i + 1) (g i a)) {a : σ} (hle : lo ≤ n) (h0 : I lo a) : I n (iter g (n - lo).toNat lo a) := by
  generalize hm : (n - lo).toNat = m
  suffices H : ∀ (m : Nat) (i : Int) (a : σ), lo ≤ i → i + m = n → I i a → I n (iter g m i a) from H m lo a (Int.le_refl _) (by omega) h0
  intro m
  induction m with
  | zero => intro i a _ h2 h3; have : i = n := by omega
            subst this; exact h3
  | succ m ih => intro i a h1 h2 h3; exact ih (i + 1) (g i a) (by omega) (by omega) (h i a h1 (by omega) h3)
theorem nth_get {α : Type} [Inhabited α] {l : List α} {i : Int} (h0 : 0 ≤ i) (h1 : i < l.length) : nth l i = l[i.toNat]'(by omega) := by
  have : i.toNat < l.length := by omega
  simp [nth, List.getD, this]
theorem nth_mem {α : Type} [Inhabited α] {l : List α} {i : Int} (h0 : 0 ≤ i) (h1 : i < l.length) : nth l i ∈ l := by
  rw [nth_get h0 h1]; exact List.getElem_mem _
theorem mem_nth {α : Type} [Inhabited α] {l : List α} {x : α} (h : x ∈ l) : ∃ i : Int, 0 ≤ i ∧ i < l.length ∧ nth l i = x := by
  obtain ⟨i, hi, e⟩ := List.mem_iff_getElem.1 h
  exact ⟨i, by omega, by omega, by rw [nth_get (by omega) (by omega)]; simpa using e⟩
theorem take_one_more {α : Type} [Inhabited α] {l : List α} {i : Int} (h0 : 0 ≤ i) (h1 : i < l.length) : l.take (i + 1).toNat = l.take i.toNat ++ [nth l i] := by
  have h : i.toNat < l.length := by omega
  rw [show (i + 1).toNat = i.toNat + 1 by omega, List.take_succ_eq_append_getElem h, nth_get h0 h1]
theorem place_mem {l : List Int} {x : Int} (h : x ∈ l) : 0 ≤ place l x ∧ place l x < l.length ∧ nth l (place l x) = x := by
  obtain ⟨i, h0, h1, h2⟩ := mem_nth h
  rw [place]
  cases hs : seek (fun j => nth l j = x) 0 l.length with
  | none => exact absurd h2 (seek_none.1 hs i h0 h1)
  | some j => have := seek_some.1 hs; exact ⟨this.1, this.2.1, this.2.2.1⟩
theorem place_nonneg {l : List Int} {x : Int} (h : 0 ≤ place l x) : x ∈ l ∧ place l x < l.length ∧ nth l (place l x) = x := by
  rw [place] at h ⊢
  cases hs : seek (fun j => nth l j = x) 0 l.length with
  | none => rw [hs] at h; dsimp only at h; omega
  | some j =>
    obtain ⟨h1, h2, h3, _⟩ := seek_some.1 hs
    dsimp only
    exact ⟨h3 ▸ nth_mem h1 h2, h2, h3⟩
def cnt (ns : List Node) (k : Int) (m : Nat) : Nat := ((ns.take m).map fun n => n.Kids.count k).sum
theorem cnt_step (ns : List Node) (k : Int) {i : Int} (h0 : 0 ≤ i) (h1 : i < ns.length) : cnt ns k (i + 1).toNat = cnt ns k i.toNat + (nth ns i).Kids.count k := by
  rw [cnt, cnt, take_one_more h0 h1, List.map_append, List.sum_append]; simp
def Par (ns : List Node) (k : Int) (c : Nat) (m v : Int) : Prop := (c = 0 ∧ v = -2) ∨ (c = 1 ∧ 0 ≤ v ∧ v < m ∧ k ∈ (nth ns v).Kids) ∨ (2 ≤ c ∧ v = -3)
theorem grow_in (ns : List Node) (hki : KidsIn ns) {i : Int} (hi : 0 ≤ i) (hn : i < ns.length) {a : List Int} (hl : a.length = ns.length) (h : ∀ k : Int, 0 ≤ k → k < ns.length → Par ns k (cnt ns k i.toNat) i (nth a k)) :
    (iter (gKid (nth ns i).Kids i) (((nth ns i).Kids.length : Int) - 0).toNat 0 a).length = ns.length ∧ ∀ k : Int, 0 ≤ k → k < ns.length → Par ns k (cnt ns k (i + 1).toNat) (i + 1) (nth (iter (gKid (nth ns i).Kids i) (((nth ns i).Kids.length : Int) - 0).toNat 0 a) k) := by
  have := iter_inv (g := gKid (nth ns i).Kids i) (fun j a => a.length = ns.length ∧ ∀ k : Int, 0 ≤ k → k < ns.length → Par ns k (cnt ns k i.toNat + ((nth ns i).Kids.take j.toNat).count k) (i + 1) (nth a k)) 0 ((nth ns i).Kids.length : Int) (by
    rintro j a h1 h2 ⟨h3, h4⟩
    have hk := hki i hi hn j h1 h2
    refine ⟨by simpa [gKid] using h3, fun k k0 k1 => ?_⟩
    have e := take_one_more h1 h2
    simp only [gKid]
    rw [nth_set hk.1 (by omega) k0, e, List.count_append]
    have hp := h4 k k0 k1
    by_cases hkk : nth (nth ns i).Kids j = k
    · rw [if_pos hkk, hkk]
      have hc : List.count k [k] = 1 := by simp
      rw [hc]
      rcases hp with ⟨c, v⟩ | ⟨c, v0, v1, v2⟩ | ⟨c, v⟩
      · rw [if_pos v]; exact .inr (.inl ⟨by omega, hi, by omega, hkk ▸ nth_mem h1 h2⟩)
      · rw [if_neg (by omega)]; exact .inr (.inr ⟨by omega, rfl⟩)
      · rw [if_neg (by omega)]; exact .inr (.inr ⟨by omega, rfl⟩)
    · rw [if_neg hkk]
      have hc : List.count k [nth (nth ns i).Kids j] = 0 := by simp [hkk]
      rw [hc, Nat.add_zero]; exact hp) (a := a) (by omega) ⟨hl, fun k k0 k1 => by
        rcases h k k0 k1 with ⟨c, v⟩ | ⟨c, v0, v1, v2⟩ | ⟨c, v⟩
        · exact .inl ⟨by simpa using c, v⟩
        · exact .inr (.inl ⟨by simpa using c, v0, by omega, v2⟩)
        · exact .inr (.inr ⟨by simpa using c, v⟩)⟩
  refine ⟨this.1, fun k k0 k1 => ?_⟩
  have h5 := this.2 k k0 k1
  rw [cnt_step ns k hi hn]
  simpa using h5
theorem grow_par (ns : List Node) (hki : KidsIn ns) (k : Int) (k0 : 0 ≤ k) (k1 : k < ns.length) : Par ns k (cnt ns k ns.length) ns.length (nth (growP1 ns) k) := by
  have h0 : (growP0 ns).length = ns.length ∧ ∀ k : Int, 0 ≤ k → k < ns.length → nth (growP0 ns) k = -2 := by
    have := iter_inv (g := fun (i : Int) (a : List Int) => a.set i.toNat (-2)) (fun i a => a.length = ns.length ∧ ∀ k : Int, 0 ≤ k → k < i → nth a k = -2) 0 (ns.length : Int) (by
      rintro i a h1 h2 ⟨h3, h4⟩
      refine ⟨by simpa using h3, fun k k0 k1 => ?_⟩
      rw [nth_set h1 (by omega) k0]
      split
      · rfl
      · exact h4 k k0 (by omega)) (a := List.replicate ns.length 0) (by omega) ⟨by simp, fun k k0 k1 => by omega⟩
    exact this
  have := iter_inv (g := fun (i : Int) (a : List Int) => iter (gKid (nth ns i).Kids i) (((nth ns i).Kids.length : Int) - 0).toNat 0 a) (fun i a => a.length = ns.length ∧ ∀ k : Int, 0 ≤ k → k < ns.length → Par ns k (cnt ns k i.toNat) i (nth a k)) 0 (ns.length : Int) (fun i a h1 h2 h3 => grow_in ns hki h1 h2 h3.1 h3.2) (a := growP0 ns) (by omega) ⟨h0.1, fun k k0 k1 => .inl ⟨by simp [cnt], h0.2 k k0 k1⟩⟩
  have h6 := this.2 k k0 k1
  rw [show cnt ns k (ns.length : Int).toNat = cnt ns k ns.length by simp] at h6
  exact h6
theorem sum_zero : ∀ {l : List Nat}, (∀ x ∈ l, x = 0) → l.sum = 0
  | [], _ => rfl
  | x :: l, h => by rw [List.sum_cons, h x (by simp), sum_zero (fun y hy => h y (by simp [hy]))]
theorem cnt_last (ns : List Node) (hki : KidsIn ns) : cnt ns ((ns.length : Int) - 1) ns.length = 0 := by
  rw [cnt, List.take_length]
  have : ∀ n ∈ ns, n.Kids.count ((ns.length : Int) - 1) = 0 := fun n hn => by
    rw [List.count_eq_zero]
    intro hm
    obtain ⟨i, h0, h1, rfl⟩ := mem_nth hn
    obtain ⟨j, h2, h3, h4⟩ := mem_nth hm
    have := hki i h0 h1 j h2 h3
    omega
  refine sum_zero fun x hx => ?_
  obtain ⟨n, hn, rfl⟩ := List.mem_map.1 hx
  exact this n hn
theorem growP_last (ns : List Node) (hki : KidsIn ns) (h1 : 1 ≤ ns.length) : nth (growP ns) ((ns.length : Int) - 1) = -1 := by
  have hp := grow_par ns hki ((ns.length : Int) - 1) (by omega) (by omega)
  rw [cnt_last ns hki] at hp
  have hv : nth (growP1 ns) ((ns.length : Int) - 1) = -2 := by
    rcases hp with ⟨_, h⟩ | ⟨h, _⟩ | ⟨h, _⟩
    · exact h
    · omega
    · omega
  rw [growP, if_pos hv, nth_set (by omega) (by rw [growP1_length]; omega) (by omega), if_pos rfl]
theorem growP_par (ns : List Node) (hki : KidsIn ns) (k : Int) (k0 : 0 ≤ k) (k1 : k < (ns.length : Int) - 1) : Par ns k (cnt ns k ns.length) ns.length (nth (growP ns) k) := by
  have hp := grow_par ns hki k k0 (by omega)
  rw [growP]
  split
  · rw [nth_set (by omega) (by rw [growP1_length]; omega) k0, if_neg (by omega)]; exact hp
  · exact hp
theorem growP_lt (ns : List Node) (hki : KidsIn ns) (h1 : 1 ≤ ns.length) (k : Int) (k0 : 0 ≤ k) (k1 : k < ns.length) : nth (growP ns) k < ns.length := by
  by_cases h : k = (ns.length : Int) - 1
  · subst h; rw [growP_last ns hki h1]; omega
  · rcases growP_par ns hki k k0 (by omega) with ⟨_, h⟩ | ⟨_, _, h, _⟩ | ⟨_, h⟩ <;> omega
theorem tree_ok (ns : List Node) (hki : KidsIn ns) (h1 : 1 ≤ ns.length) (h4 : ∀ n : Int, 0 ≤ n → n < ns.length → ¬bad4 ns n) : TreeOk ns (growP ns) := by
  refine ⟨growP_length ns, fun i i0 i1 => ?_⟩
  by_cases h : i = (ns.length : Int) - 1
  · subst h; exact .inl (growP_last ns hki h1)
  · right
    have hb := h4 i i0 i1
    have hv : 0 ≤ nth (growP ns) i := by
      rcases Int.lt_or_le (nth (growP ns) i) 0 with h5 | h5
      · exact absurd (.inl ⟨h, h5⟩) hb
      · exact h5
    rcases growP_par ns hki i i0 (by omega) with ⟨_, h5⟩ | ⟨_, h5, h6, h7⟩ | ⟨_, h5⟩
    · omega
    · obtain ⟨j, j0, j1, j2⟩ := mem_nth h7
      have := hki _ h5 h6 j j0 j1
      exact ⟨by omega, h6, (place_mem h7).1⟩
    · omega
end Go.Proofs.Try.Av
end
section
attribute [local congr] ite_congr
set_option maxRecDepth 10000
set_option maxHeartbeats 400000
namespace Go.Proofs.Try.Av
open Go Go.Av Classical
theorem iter_map {α : Type} [Inhabited α] (l : List α) (g : α → α) (z : α) : iter (fun (i : Int) (a : List α) => a.set i.toNat (g (nth l i))) ((l.length : Int) - 0).toNat 0 (List.replicate l.length z) = l.map g := by
  have H : ∀ (m : Nat) (i : Int) (a : List α), 0 ≤ i → i + m = l.length → a.length = l.length → (∀ k : Int, 0 ≤ k → k < i → nth a k = g (nth l k)) → (iter (fun (i : Int) (a : List α) => a.set i.toNat (g (nth l i))) m i a).length = l.length ∧ ∀ k : Int, 0 ≤ k → k < l.length → nth (iter (fun (i : Int) (a : List α) => a.set i.toNat (g (nth l i))) m i a) k = g (nth l k) := by
    intro m
    induction m with
    | zero => intro i a h0 h1 h2 h3; exact ⟨h2, fun k k0 k1 => h3 k k0 (by omega)⟩
    | succ m ih =>
      intro i a h0 h1 h2 h3
      refine ih (i + 1) _ (by omega) (by omega) (by simpa using h2) fun k k0 k1 => ?_
      rw [nth_set h0 (by omega) k0]
      by_cases h : i = k
      · rw [if_pos h, h]
      · rw [if_neg h]; exact h3 k k0 (by omega)
  obtain ⟨h1, h2⟩ := H ((l.length : Int) - 0).toNat 0 (List.replicate l.length z) (by omega) (by omega) (by simp) (fun k k0 k1 => by omega)
  refine nth_ext (by simpa using h1) fun k k0 k1 => ?_
  rw [h1] at k1
  rw [h2 k k0 k1, nth_get k0 k1, nth_get k0 (by simpa using k1)]
  simp
theorem set_str (l : List ByteArray) (i : Nat) (v : ByteArray) : (l.map sv).set i [.str v] = (l.set i v).map sv := by rw [List.map_set]
theorem rep_str (n : Nat) (v : ByteArray) : List.replicate n [PV.str v] = (List.replicate n v).map sv := by rw [List.map_replicate]
theorem set_up (l : List Up) (i : Nat) (b : Bool) (k : Int) : (l.map Up.cells).set i [.bool b, .int .i64 k] = (l.set i ⟨b, k⟩).map Up.cells := by rw [List.map_set]
theorem rep_up (n : Nat) (b : Bool) (k : Int) : List.replicate n [PV.bool b, PV.int .i64 k] = (List.replicate n (Up.mk b k)).map Up.cells := by rw [List.map_replicate]
theorem lp_toInt (o : Option (List Int)) (hb : (ol o).length ≤ 1048576) (a0 : List Int) (hok0 : a0.length = (ol o).length) : EV A (.loop (B_laws_toIntS 0)) (⟨[(0, osl iv o), (2, .nils), (3, .sl 0 0 (ol o).length (ol o).length), (4, .int .i64 (0))], [], [.cells 1 (a0.map iv)], []⟩ : St) = some (AExit.exit 0, (⟨[(0, osl iv o), (2, .nils), (3, .sl 0 0 (ol o).length (ol o).length), (4, .int .i64 ((ol o).length))], [], [.cells 1 ((iter (fun (i : Int) (a : List Int) => a.set i.toNat (nth (ol o) i)) (((ol o).length : Int) - 0).toNat (0) a0).map iv)], []⟩ : St)) ∧ (iter (fun (i : Int) (a : List Int) => a.set i.toNat (nth (ol o) i)) (((ol o).length : Int) - 0).toNat (0) a0).length = (ol o).length := by
  refine loop_iter (fun i (a : List Int) => (⟨[(0, osl iv o), (2, .nils), (3, .sl 0 0 (ol o).length (ol o).length), (4, .int .i64 i)], [], [.cells 1 (a.map iv)], []⟩ : St)) (fun (i : Int) (a : List Int) => a.set i.toNat (nth (ol o) i)) (fun i (a : List Int) => a.length = (ol o).length) (fun a => (AExit.exit 0, (⟨[(0, osl iv o), (2, .nils), (3, .sl 0 0 (ol o).length (ol o).length), (4, .int .i64 ((ol o).length))], [], [.cells 1 (a.map iv)], []⟩ : St))) (0) ((ol o).length) ?_ ?_ (0) a0 (by omega) (by omega) hok0
  · intro i a hi hn hok
    refine ⟨⟨_, by simp -implicitDefEqProofs +contextual (disch := omega) only [ub_laws_toIntS_0, rr_laws_toIntS, ↓XD, XU, ↓reduceIte, sevalprocAttr, lenV_osl, idx_osl, iv, hn, hok]; rfl, by first | (simp [St.next, trim_all]; done) | (simp [St.next, trim_all]; omega) | (simp [St.next, trim, bare, refsL, refs]; done)⟩, by simp; omega⟩
  · rintro i a hi rfl hok
    refine ⟨by simp -implicitDefEqProofs +contextual (disch := omega) only [ub_laws_toIntS_0, rr_laws_toIntS, ↓XD, XU, ↓reduceIte, sevalprocAttr, lenV_osl, idx_osl, iv, Int.lt_irrefl, hok], by simp⟩
theorem lp_toStr (o : Option (List ByteArray)) (hb : (ol o).length ≤ 1048576) (a0 : List ByteArray) (hok0 : a0.length = (ol o).length) : EV A (.loop (B_laws_toStringS 0)) (⟨[(0, osl sv o), (2, .nils), (3, .sl 0 0 (ol o).length (ol o).length), (4, .int .i64 (0))], [], [.cells 1 (a0.map sv)], []⟩ : St) = some (AExit.exit 0, (⟨[(0, osl sv o), (2, .nils), (3, .sl 0 0 (ol o).length (ol o).length), (4, .int .i64 ((ol o).length))], [], [.cells 1 ((iter (fun (i : Int) (a : List ByteArray) => a.set i.toNat (nth (ol o) i)) (((ol o).length : Int) - 0).toNat (0) a0).map sv)], []⟩ : St)) ∧ (iter (fun (i : Int) (a : List ByteArray) => a.set i.toNat (nth (ol o) i)) (((ol o).length : Int) - 0).toNat (0) a0).length = (ol o).length := by
  refine loop_iter (fun i (a : List ByteArray) => (⟨[(0, osl sv o), (2, .nils), (3, .sl 0 0 (ol o).length (ol o).length), (4, .int .i64 i)], [], [.cells 1 (a.map sv)], []⟩ : St)) (fun (i : Int) (a : List ByteArray) => a.set i.toNat (nth (ol o) i)) (fun i (a : List ByteArray) => a.length = (ol o).length) (fun a => (AExit.exit 0, (⟨[(0, osl sv o), (2, .nils), (3, .sl 0 0 (ol o).length (ol o).length), (4, .int .i64 ((ol o).length))], [], [.cells 1 (a.map sv)], []⟩ : St))) (0) ((ol o).length) ?_ ?_ (0) a0 (by omega) (by omega) hok0
  · intro i a hi hn hok
    refine ⟨⟨_, by simp -implicitDefEqProofs +contextual (disch := omega) only [ub_laws_toStringS_0, rr_laws_toStringS, ↓XD, XU, ↓reduceIte, sevalprocAttr, lenV_osl, idx_osl, sv, set_str, hn, hok]; rfl, by first | (simp [St.next, trim_all]; done) | (simp [St.next, trim_all]; omega) | (simp [St.next, trim, bare, refsL, refs]; done)⟩, by simp; omega⟩
  · rintro i a hi rfl hok
    refine ⟨by simp -implicitDefEqProofs +contextual (disch := omega) only [ub_laws_toStringS_0, rr_laws_toStringS, ↓XD, XU, ↓reduceIte, sevalprocAttr, lenV_osl, idx_osl, sv, set_str, Int.lt_irrefl, hok], by simp⟩
theorem el_toUp (u : Up) : EP A n_laws_toUp [.agg u.cells] = some (.agg u.cells) := by
  simp -implicitDefEqProofs +contextual (disch := omega) only [e_laws_toUp, u_laws_toUp, rr_laws_toUp, Up.cells, ↓XD, XU, ↓reduceIte, sevalprocAttr]
theorem lp_toUp (o : Option (List Up)) (hb : (ol o).length ≤ 1048576) (a0 : List Up) (hok0 : a0.length = (ol o).length) : EV A (.loop (B_laws_toUpS 0)) (⟨[(0, osl Up.cells o), (2, .nils), (3, .sl 0 0 (ol o).length (ol o).length), (4, .int .i64 (0))], [], [.cells 2 (a0.map Up.cells)], []⟩ : St) = some (AExit.exit 0, (⟨[(0, osl Up.cells o), (2, .nils), (3, .sl 0 0 (ol o).length (ol o).length), (4, .int .i64 ((ol o).length))], [], [.cells 2 ((iter (fun (i : Int) (a : List Up) => a.set i.toNat (nth (ol o) i)) (((ol o).length : Int) - 0).toNat (0) a0).map Up.cells)], []⟩ : St)) ∧ (iter (fun (i : Int) (a : List Up) => a.set i.toNat (nth (ol o) i)) (((ol o).length : Int) - 0).toNat (0) a0).length = (ol o).length := by
  refine loop_iter (fun i (a : List Up) => (⟨[(0, osl Up.cells o), (2, .nils), (3, .sl 0 0 (ol o).length (ol o).length), (4, .int .i64 i)], [], [.cells 2 (a.map Up.cells)], []⟩ : St)) (fun (i : Int) (a : List Up) => a.set i.toNat (nth (ol o) i)) (fun i (a : List Up) => a.length = (ol o).length) (fun a => (AExit.exit 0, (⟨[(0, osl Up.cells o), (2, .nils), (3, .sl 0 0 (ol o).length (ol o).length), (4, .int .i64 ((ol o).length))], [], [.cells 2 (a.map Up.cells)], []⟩ : St))) (0) ((ol o).length) ?_ ?_ (0) a0 (by omega) (by omega) hok0
  · intro i a hi hn hok
    refine ⟨⟨_, by simp -implicitDefEqProofs +contextual (disch := omega) only [ub_laws_toUpS_0, rr_laws_toUpS, ↓XD, XU, ↓reduceIte, sevalprocAttr, lenV_osl, idx_osl, Up.cells, el_toUp, set_up, hn, hok]; rfl, by first | (simp [St.next, trim_all]; done) | (simp [St.next, trim_all]; omega) | (simp [St.next, trim, bare, refsL, refs]; done)⟩, by simp; omega⟩
  · rintro i a hi rfl hok
    refine ⟨by simp -implicitDefEqProofs +contextual (disch := omega) only [ub_laws_toUpS_0, rr_laws_toUpS, ↓XD, XU, ↓reduceIte, sevalprocAttr, lenV_osl, idx_osl, Up.cells, el_toUp, set_up, Int.lt_irrefl, hok], by simp⟩
def RNode.norm (n : RNode) : RNode := { n with Refs := some (ol n.Refs), Kids := some (ol n.Kids) }
def RFn.norm (f : RFn) : RFn := { f with Vars := some (ol f.Vars), Ups := some (ol f.Ups), Nodes := some ((ol f.Nodes).map RNode.norm) }
structure NodeS (n : RNode) : Prop where
  r : (ol n.Refs).length ≤ 1048576
  k : (ol n.Kids).length ≤ 1048576
structure FnS (f : RFn) : Prop where
  v : (ol f.Vars).length ≤ 1048576
  u : (ol f.Ups).length ≤ 1048576
  n : (ol f.Nodes).length ≤ 1048576
  ns : ∀ i : Int, NodeS (nth (ol f.Nodes) i)
def RNode.to (n : RNode) : Node := ⟨n.Kind, n.Line, n.Op, n.Num, n.Flt, n.Str, ol n.Refs, ol n.Kids⟩
def RFn.to (f : RFn) : Fn := ⟨f.Name, f.Line, f.Params, f.Rest, ol f.Vars, ol f.Ups, (ol f.Nodes).map RNode.to⟩
theorem norm_fn (f : RFn) : f.norm.cells = f.to.cells := by
  simp only [RFn.norm, RFn.to, RFn.cells, Fn.cells, osl_some, strs, ups, nodes, List.map_map]
  rfl
theorem one_read : Ieee.double.read 4607182418800017408 = .number false 4503599627370496 (-52) := by decide
theorem div_one (x : Nat) (h : FloatKind.f64.format.order x 0 = some .eq) : ∃ r, FloatKind.f64.format.div 4607182418800017408 x = some r := by
  have h' : (Ieee.double.read x).order (Ieee.double.read 0) = some .eq := h
  show ∃ r, (Ieee.Datum.quotient (Ieee.double.fractionBits + 2) (Ieee.double.read 4607182418800017408) (Ieee.double.read x)).map Ieee.double.write = some r
  rw [one_read]
  cases hx : Ieee.double.read x with
  | nan s n => rw [hx] at h'; cases h'
  | infinity s => exact ⟨_, rfl⟩
  | number s m i =>
    simp only [Ieee.Datum.quotient]
    split
    · exact ⟨_, rfl⟩
    · exact ⟨_, rfl⟩
theorem bin_fquo (k : FloatKind) (x y r : Nat) (h : k.format.div x y = some r) : Av.bin .quo (.flt k x) (.flt k y) = some (.flt k r) := by simp [Av.bin, binFlt, h]
theorem el_sameFloat (x : Nat) : EP A n_laws_sameFloat [.flt .f64 x, .flt .f64 x] = some (.bool true) := by
  by_cases h0 : FloatKind.f64.format.order x x = some .eq
  · by_cases h : FloatKind.f64.format.order x 0 = some .eq
    · obtain ⟨r, hr⟩ := div_one x h
      have hq := bin_fquo .f64 4607182418800017408 x r hr
      simp -implicitDefEqProofs +contextual (disch := omega) only [e_laws_sameFloat, u_laws_sameFloat, rr_laws_sameFloat, ↓XD, XU, ↓reduceIte, sevalprocAttr, h0, h, hq]
    · simp -implicitDefEqProofs +contextual (disch := omega) only [e_laws_sameFloat, u_laws_sameFloat, rr_laws_sameFloat, ↓XD, XU, ↓reduceIte, sevalprocAttr, h0, h]
  · simp -implicitDefEqProofs +contextual (disch := omega) only [e_laws_sameFloat, u_laws_sameFloat, rr_laws_sameFloat, ↓XD, XU, ↓reduceIte, sevalprocAttr, h0]
theorem el_eqUp (u : Up) : EP A n_laws_eqUp [.agg u.cells, .agg u.cells] = some (.bool true) := by
  simp -implicitDefEqProofs +contextual (disch := omega) only [e_laws_eqUp, u_laws_eqUp, rr_laws_eqUp, Up.cells, ↓XD, XU, ↓reduceIte, sevalprocAttr]
theorem lq_Int (l : List Int) (hb : l.length ≤ 1048576) (a0 : Unit) (hok0 : True) : EV A (.loop (B_laws_eqIntS 0)) (⟨[(0, .fz (l.map (fun k => [.int .i64 k]))), (1, .fz (l.map (fun k => [.int .i64 k]))), (4, .bool false), (5, .int .i64 (0))], [], [], []⟩ : St) = some (AExit.exit 0, (⟨[(0, .fz (l.map (fun k => [.int .i64 k]))), (1, .fz (l.map (fun k => [.int .i64 k]))), (4, .bool false), (5, .int .i64 (l.length))], [], [], []⟩ : St)) ∧ True := by
  refine loop_iter (fun i (a : Unit) => (⟨[(0, .fz (l.map (fun k => [.int .i64 k]))), (1, .fz (l.map (fun k => [.int .i64 k]))), (4, .bool false), (5, .int .i64 i)], [], [], []⟩ : St)) (fun (i : Int) (a : Unit) => a) (fun i (a : Unit) => True) (fun a => (AExit.exit 0, (⟨[(0, .fz (l.map (fun k => [.int .i64 k]))), (1, .fz (l.map (fun k => [.int .i64 k]))), (4, .bool false), (5, .int .i64 (l.length))], [], [], []⟩ : St))) (0) (l.length) ?_ ?_ (0) a0 (by omega) (by omega) hok0
  · intro i a hi hn hok
    refine ⟨⟨_, by simp -implicitDefEqProofs +contextual (disch := omega) only [ub_laws_eqIntS_0, rr_laws_eqIntS, ↓XD, XU, ↓reduceIte, sevalprocAttr, refsL, hn, hok]; rfl, by first | (simp [St.next, trim_all]; done) | (simp [St.next, trim_all]; omega) | (simp [St.next, trim, bare, refsL, refs]; done)⟩, by trivial⟩
  · rintro i a hi rfl hok
    refine ⟨by simp -implicitDefEqProofs +contextual (disch := omega) only [ub_laws_eqIntS_0, rr_laws_eqIntS, ↓XD, XU, ↓reduceIte, sevalprocAttr, refsL, Int.lt_irrefl, hok], by simp⟩
theorem el_eqIntS (l : List Int) (hb : l.length ≤ 1048576) : EP A n_laws_eqIntS [.fz (l.map (fun k => [.int .i64 k])), .fz (l.map (fun k => [.int .i64 k]))] = some (.bool true) := by
  have hl := (lq_Int l hb () trivial).1
  simp -implicitDefEqProofs +contextual (disch := omega) only [e_laws_eqIntS, u_laws_eqIntS, rr_laws_eqIntS, ↓XD, XU, ↓reduceIte, sevalprocAttr, hl]
theorem lq_String (l : List ByteArray) (hb : l.length ≤ 1048576) (a0 : Unit) (hok0 : True) : EV A (.loop (B_laws_eqStringS 0)) (⟨[(0, .fz (l.map (fun s => [.str s]))), (1, .fz (l.map (fun s => [.str s]))), (4, .bool false), (5, .int .i64 (0))], [], [], []⟩ : St) = some (AExit.exit 0, (⟨[(0, .fz (l.map (fun s => [.str s]))), (1, .fz (l.map (fun s => [.str s]))), (4, .bool false), (5, .int .i64 (l.length))], [], [], []⟩ : St)) ∧ True := by
  refine loop_iter (fun i (a : Unit) => (⟨[(0, .fz (l.map (fun s => [.str s]))), (1, .fz (l.map (fun s => [.str s]))), (4, .bool false), (5, .int .i64 i)], [], [], []⟩ : St)) (fun (i : Int) (a : Unit) => a) (fun i (a : Unit) => True) (fun a => (AExit.exit 0, (⟨[(0, .fz (l.map (fun s => [.str s]))), (1, .fz (l.map (fun s => [.str s]))), (4, .bool false), (5, .int .i64 (l.length))], [], [], []⟩ : St))) (0) (l.length) ?_ ?_ (0) a0 (by omega) (by omega) hok0
  · intro i a hi hn hok
    refine ⟨⟨_, by simp -implicitDefEqProofs +contextual (disch := omega) only [ub_laws_eqStringS_0, rr_laws_eqStringS, ↓XD, XU, ↓reduceIte, sevalprocAttr, refsL, hn, hok]; rfl, by first | (simp [St.next, trim_all]; done) | (simp [St.next, trim_all]; omega) | (simp [St.next, trim, bare, refsL, refs]; done)⟩, by trivial⟩
  · rintro i a hi rfl hok
    refine ⟨by simp -implicitDefEqProofs +contextual (disch := omega) only [ub_laws_eqStringS_0, rr_laws_eqStringS, ↓XD, XU, ↓reduceIte, sevalprocAttr, refsL, Int.lt_irrefl, hok], by simp⟩
theorem el_eqStringS (l : List ByteArray) (hb : l.length ≤ 1048576) : EP A n_laws_eqStringS [.fz (l.map (fun s => [.str s])), .fz (l.map (fun s => [.str s]))] = some (.bool true) := by
  have hl := (lq_String l hb () trivial).1
  simp -implicitDefEqProofs +contextual (disch := omega) only [e_laws_eqStringS, u_laws_eqStringS, rr_laws_eqStringS, ↓XD, XU, ↓reduceIte, sevalprocAttr, hl]
theorem lq_Up (l : List Up) (hb : l.length ≤ 1048576) (a0 : Unit) (hok0 : True) : EV A (.loop (B_laws_eqUpS 0)) (⟨[(0, .fz (l.map Up.cells)), (1, .fz (l.map Up.cells)), (4, .bool false), (5, .int .i64 (0))], [], [], []⟩ : St) = some (AExit.exit 0, (⟨[(0, .fz (l.map Up.cells)), (1, .fz (l.map Up.cells)), (4, .bool false), (5, .int .i64 (l.length))], [], [], []⟩ : St)) ∧ True := by
  refine loop_iter (fun i (a : Unit) => (⟨[(0, .fz (l.map Up.cells)), (1, .fz (l.map Up.cells)), (4, .bool false), (5, .int .i64 i)], [], [], []⟩ : St)) (fun (i : Int) (a : Unit) => a) (fun i (a : Unit) => True) (fun a => (AExit.exit 0, (⟨[(0, .fz (l.map Up.cells)), (1, .fz (l.map Up.cells)), (4, .bool false), (5, .int .i64 (l.length))], [], [], []⟩ : St))) (0) (l.length) ?_ ?_ (0) a0 (by omega) (by omega) hok0
  · intro i a hi hn hok
    refine ⟨⟨_, by simp -implicitDefEqProofs +contextual (disch := omega) only [ub_laws_eqUpS_0, rr_laws_eqUpS, ↓XD, XU, ↓reduceIte, sevalprocAttr, Up.cells, el_eqUp, hn, hok]; rfl, by first | (simp [St.next, trim_all]; done) | (simp [St.next, trim_all]; omega) | (simp [St.next, trim, bare, refsL, refs]; done)⟩, by trivial⟩
  · rintro i a hi rfl hok
    refine ⟨by simp -implicitDefEqProofs +contextual (disch := omega) only [ub_laws_eqUpS_0, rr_laws_eqUpS, ↓XD, XU, ↓reduceIte, sevalprocAttr, Up.cells, el_eqUp, Int.lt_irrefl, hok], by simp⟩
theorem el_eqUpS (l : List Up) (hb : l.length ≤ 1048576) : EP A n_laws_eqUpS [.fz (l.map Up.cells), .fz (l.map Up.cells)] = some (.bool true) := by
  have hl := (lq_Up l hb () trivial).1
  simp -implicitDefEqProofs +contextual (disch := omega) only [e_laws_eqUpS, u_laws_eqUpS, rr_laws_eqUpS, ↓XD, XU, ↓reduceIte, sevalprocAttr, hl]
theorem el_eqNode (n : Node) (h1 : n.Refs.length ≤ 1048576) (h2 : n.Kids.length ≤ 1048576) : EP A n_laws_eqNode [.agg n.cells, .agg n.cells] = some (.bool true) := by
  have g1 := el_eqIntS n.Refs h1
  have g2 := el_eqIntS n.Kids h2
  simp -implicitDefEqProofs +contextual (disch := omega) only [e_laws_eqNode, u_laws_eqNode, rr_laws_eqNode, Node.cells, ints, ↓XD, XU, ↓reduceIte, sevalprocAttr, el_sameFloat, g1, g2]
theorem lq_Node (l : List Node) (hb : l.length ≤ 1048576) (hs : Sized l) (a0 : Unit) (hok0 : True) : EV A (.loop (B_laws_eqNodeS 0)) (⟨[(0, .fz (l.map Node.cells)), (1, .fz (l.map Node.cells)), (4, .bool false), (5, .int .i64 (0))], [], [], []⟩ : St) = some (AExit.exit 0, (⟨[(0, .fz (l.map Node.cells)), (1, .fz (l.map Node.cells)), (4, .bool false), (5, .int .i64 (l.length))], [], [], []⟩ : St)) ∧ True := by
  refine loop_iter (fun i (a : Unit) => (⟨[(0, .fz (l.map Node.cells)), (1, .fz (l.map Node.cells)), (4, .bool false), (5, .int .i64 i)], [], [], []⟩ : St)) (fun (i : Int) (a : Unit) => a) (fun i (a : Unit) => True) (fun a => (AExit.exit 0, (⟨[(0, .fz (l.map Node.cells)), (1, .fz (l.map Node.cells)), (4, .bool false), (5, .int .i64 (l.length))], [], [], []⟩ : St))) (0) (l.length) ?_ ?_ (0) a0 (by omega) (by omega) hok0
  · intro i a hi hn hok
    have hg := el_eqNode (nth l i) (hs i).1 (hs i).2; simp only [Node.cells, ints] at hg
    refine ⟨⟨_, by simp -implicitDefEqProofs +contextual (disch := omega) only [ub_laws_eqNodeS_0, rr_laws_eqNodeS, ↓XD, XU, ↓reduceIte, sevalprocAttr, Node.cells, ints, hg, hn, hok]; rfl, by first | (simp [St.next, trim_all]; done) | (simp [St.next, trim_all]; omega) | (simp [St.next, trim, bare, refsL, refs]; done)⟩, by trivial⟩
  · rintro i a hi rfl hok
    refine ⟨by simp -implicitDefEqProofs +contextual (disch := omega) only [ub_laws_eqNodeS_0, rr_laws_eqNodeS, ↓XD, XU, ↓reduceIte, sevalprocAttr, Node.cells, ints, Int.lt_irrefl, hok], by simp⟩
theorem el_eqNodeS (l : List Node) (hb : l.length ≤ 1048576) (hs : Sized l) : EP A n_laws_eqNodeS [nodes l, nodes l] = some (.bool true) := by
  have hl := (lq_Node l hb hs () trivial).1
  simp -implicitDefEqProofs +contextual (disch := omega) only [e_laws_eqNodeS, u_laws_eqNodeS, rr_laws_eqNodeS, nodes, ↓XD, XU, ↓reduceIte, sevalprocAttr, hl]
theorem el_eqFn (f : Fn) (h1 : f.Vars.length ≤ 1048576) (h2 : f.Ups.length ≤ 1048576) (h3 : f.Nodes.length ≤ 1048576) (hs : Sized f.Nodes) : EP A n_laws_eqFn [.agg f.cells, .agg f.cells] = some (.bool true) := by
  have g1 := el_eqStringS f.Vars h1
  have g2 := el_eqUpS f.Ups h2
  have g3 := el_eqNodeS f.Nodes h3 hs
  simp only [nodes] at g3
  simp -implicitDefEqProofs +contextual (disch := omega) only [e_laws_eqFn, u_laws_eqFn, rr_laws_eqFn, Fn.cells, strs, ups, nodes, ↓XD, XU, ↓reduceIte, sevalprocAttr, g1, g2, g3]
theorem lq_Fn (l : List Fn) (hb : l.length ≤ 1048576) (hs : SizedF l) (a0 : Unit) (hok0 : True) : EV A (.loop (B_laws_eqFnS 0)) (⟨[(0, .fz (l.map Fn.cells)), (1, .fz (l.map Fn.cells)), (4, .bool false), (5, .int .i64 (0))], [], [], []⟩ : St) = some (AExit.exit 0, (⟨[(0, .fz (l.map Fn.cells)), (1, .fz (l.map Fn.cells)), (4, .bool false), (5, .int .i64 (l.length))], [], [], []⟩ : St)) ∧ True := by
  refine loop_iter (fun i (a : Unit) => (⟨[(0, .fz (l.map Fn.cells)), (1, .fz (l.map Fn.cells)), (4, .bool false), (5, .int .i64 i)], [], [], []⟩ : St)) (fun (i : Int) (a : Unit) => a) (fun i (a : Unit) => True) (fun a => (AExit.exit 0, (⟨[(0, .fz (l.map Fn.cells)), (1, .fz (l.map Fn.cells)), (4, .bool false), (5, .int .i64 (l.length))], [], [], []⟩ : St))) (0) (l.length) ?_ ?_ (0) a0 (by omega) (by omega) hok0
  · intro i a hi hn hok
    have hg := el_eqFn (nth l i) (hs i).1 (hs i).2.1 (hs i).2.2.1 (hs i).2.2.2; simp only [Fn.cells, strs, ups, nodes] at hg
    refine ⟨⟨_, by simp -implicitDefEqProofs +contextual (disch := omega) only [ub_laws_eqFnS_0, rr_laws_eqFnS, ↓XD, XU, ↓reduceIte, sevalprocAttr, Fn.cells, strs, ups, nodes, hg, hn, hok]; rfl, by first | (simp [St.next, trim_all]; done) | (simp [St.next, trim_all]; omega) | (simp [St.next, trim, bare, refsL, refs]; done)⟩, by trivial⟩
  · rintro i a hi rfl hok
    refine ⟨by simp -implicitDefEqProofs +contextual (disch := omega) only [ub_laws_eqFnS_0, rr_laws_eqFnS, ↓XD, XU, ↓reduceIte, sevalprocAttr, Fn.cells, strs, ups, nodes, Int.lt_irrefl, hok], by simp⟩
theorem el_eqFnS (l : List Fn) (hb : l.length ≤ 1048576) (hs : SizedF l) : EP A n_laws_eqFnS [fns l, fns l] = some (.bool true) := by
  have hl := (lq_Fn l hb hs () trivial).1
  simp -implicitDefEqProofs +contextual (disch := omega) only [e_laws_eqFnS, u_laws_eqFnS, rr_laws_eqFnS, fns, ↓XD, XU, ↓reduceIte, sevalprocAttr, hl]
theorem el_eqUnit (l : List Fn) (hb : l.length ≤ 1048576) (hs : SizedF l) : EP A n_laws_eqUnit [unit l, unit l] = some (.bool true) := by
  have g := el_eqFnS l hb hs
  simp only [fns] at g
  simp -implicitDefEqProofs +contextual (disch := omega) only [e_laws_eqUnit, u_laws_eqUnit, rr_laws_eqUnit, unit, fns, ↓XD, XU, ↓reduceIte, sevalprocAttr, g]
end Go.Proofs.Try.Av
end
section
attribute [local congr] ite_congr
set_option maxRecDepth 10000
set_option maxHeartbeats 4000000
namespace Go.Proofs.Try.Av
open Go Go.Av Classical
theorem seek_noneD {p : Int → Prop} {i n : Int} (h : seek p i n = none) {j : Int} (h1 : i ≤ j) (h2 : j < n) : ¬p j := seek_none.1 h j h1 h2
structure Fine (fs : List Fn) : Prop where
  big : ¬Big fs
  head : ∀ f : Int, 0 ≤ f → f < fs.length → Head fs f
  shape : ∀ f : Int, 0 ≤ f → f < fs.length → ∀ n : Int, 0 ≤ n → n < (nth fs f).Nodes.length → Shape (nth fs f).Nodes n
theorem first_fine {fs : List Fn} (h : (first fs).1 = 0) : Fine fs := by
  rw [first] at h
  by_cases hB : Big fs
  · rw [if_pos hB] at h; exact absurd h (by decide)
  · rw [if_neg hB] at h
    cases h1 : badHead fs with
    | some f => rw [h1] at h; exact absurd h (by dsimp only; decide)
    | none =>
      rw [h1] at h
      cases h2 : badShapes fs with
      | some f => rw [h2] at h; exact absurd h (by dsimp only; decide)
      | none =>
        refine ⟨hB, fun f f0 f1 => Classical.not_not.1 (seek_noneD h1 f0 f1), fun f f0 f1 n n0 n1 => ?_⟩
        have h3 : badShape fs f = none := Classical.not_not.1 (seek_noneD h2 f0 f1)
        exact Classical.not_not.1 (seek_noneD h3 n0 n1)
theorem Fine.kids {fs : List Fn} (h : Fine fs) {f : Int} (f0 : 0 ≤ f) (f1 : f < fs.length) : KidsIn (nth fs f).Nodes := fun a a0 a1 j j0 j1 => (h.shape f f0 f1 a a0 a1).2.1 j j0 j1
theorem shape_ref {ns : List Node} {a : Int} (h : Shape ns a) (hk : (nth ns a).Kind = 26 ∨ (nth ns a).Kind = 27 ∨ (nth ns a).Kind = 36) : (nth ns a).Refs.length = 1 := by
  obtain ⟨_, _, h⟩ := h
  rcases h with ⟨h, _⟩ | ⟨_, _, h⟩
  · simp only [isStat] at h; omega
  · simp only [Expr] at h
    have h5 : BareN (nth ns a) false false false false 1 := by
      rcases h with h | h | h | h | h | h | h | h | h | h | h | h
      case inr.inr.inr.inr.inl => exact h.2.2
      all_goals (exfalso; omega)
    have := h5.2.2.2.2
    omega
theorem Fine.grow {fs : List Fn} (h : Fine fs) (hs : SizedF fs) {f : Int} (f0 : 0 ≤ f) (f1 : f < fs.length) : GrowOk (nth fs f).Nodes :=
  have h1 : 1 ≤ (nth fs f).Nodes.length := by have := (h.head f f0 f1).1; omega
  ⟨(hs f).2.2.1, h1, (hs f).2.2.2, h.kids f0 f1, growP_lt _ (h.kids f0 f1) h1⟩
theorem second_tree {fs : List Fn} (h : (second fs).1 = 0) : (∀ f : Int, 0 ≤ f → f < fs.length → ∀ n : Int, 0 ≤ n → n < (nth fs f).Nodes.length → ¬bad4 (nth fs f).Nodes n) ∧ ∀ f : Int, 0 ≤ f → f < fs.length → ∀ n : Int, 0 ≤ n → n < (nth fs f).Nodes.length → ¬bad5 (nth fs f).Nodes n := by
  rw [second] at h
  cases h1 : badPars fs with
  | some f => rw [h1] at h; exact absurd h (by dsimp only; decide)
  | none =>
    rw [h1] at h
    cases h2 : badDeps fs with
    | some f => rw [h2] at h; exact absurd h (by dsimp only; decide)
    | none =>
      refine ⟨fun f f0 f1 n n0 n1 => ?_, fun f f0 f1 n n0 n1 => ?_⟩
      · have h3 : badPar fs f = none := Classical.not_not.1 (seek_noneD h1 f0 f1)
        exact seek_noneD h3 n0 n1
      · have h3 : badDep fs f = none := Classical.not_not.1 (seek_noneD h2 f0 f1)
        exact seek_noneD h3 n0 n1
theorem Fine.fn {fs : List Fn} (h : Fine fs) (hs : SizedF fs) (h2 : (second fs).1 = 0) {f : Int} (f0 : 0 ≤ f) (f1 : f < fs.length) : FnOk (nth fs f) :=
  have hg := h.grow hs f0 f1
  have hh := h.head f f0 f1
  ⟨(hs f).1, (hs f).2.1, hh.2.2.2.1, hh.2.2.2.2.1, hg, tree_ok _ hg.hki hg.h1 ((second_tree h2).1 f f0 f1), fun a a0 a1 hk => shape_ref (h.shape f f0 f1 a a0 a1) hk⟩
theorem ep_CheckUnit (fs : List Fn) (hb : fs.length ≤ 1048576) (ht : total fs ≤ 1048576) (hs : SizedF fs) : EP A n_spec_CheckUnit [unit fs] = some (fl3 (specFault fs)) := by
  have e1 := ep_l3first fs hb ht hs
  simp only [unit, fns] at e1
  rw [specFault]
  by_cases h1 : (first fs).1 = 0
  · have hf := first_fine h1
    have e2 := ep_l3second fs hb (fun f f0 f1 => hf.grow hs f0 f1)
    simp only [unit, fns] at e2
    rw [if_neg (by simpa using h1)]
    by_cases h2 : (second fs).1 = 0
    · have e3 := ep_l3third fs hb (by have := hf.big; rw [Big] at this; omega) (fun f f0 f1 => hf.fn hs h2 f0 f1)
      simp only [unit, fns] at e3
      rw [if_neg (by simpa using h2)]
      simp -implicitDefEqProofs +contextual (disch := omega) only [e_spec_CheckUnit, u_spec_CheckUnit, rr_spec_CheckUnit, unit, fns, ↓XD, XU, ↓reduceIte, sevalprocAttr, e1, e2, e3, h1, h2]
    · rw [if_pos h2]
      simp -implicitDefEqProofs +contextual (disch := omega) only [e_spec_CheckUnit, u_spec_CheckUnit, rr_spec_CheckUnit, unit, fns, ↓XD, XU, ↓reduceIte, sevalprocAttr, e1, e2, h1, h2]
  · rw [if_pos h1]
    simp -implicitDefEqProofs +contextual (disch := omega) only [e_spec_CheckUnit, u_spec_CheckUnit, rr_spec_CheckUnit, unit, fns, ↓XD, XU, ↓reduceIte, sevalprocAttr, e1, h1]
end Go.Proofs.Try.Av
end
section
attribute [local congr] ite_congr
set_option maxRecDepth 10000
set_option maxHeartbeats 400000
namespace Go.Proofs.Try.Av
open Go Go.Av Classical
theorem sumTo_congr {c d : Int → Int} : ∀ (m : Nat) (i : Int), (∀ k, i ≤ k → c k = d k) → sumTo c m i = sumTo d m i
  | 0, _, _ => rfl
  | m + 1, i, h => by rw [sumTo, sumTo, h i (Int.le_refl _), sumTo_congr m (i + 1) (fun k hk => h k (by omega))]
theorem sumTo_shift (c : Int → Int) : ∀ (m : Nat) (i : Int), sumTo c m (i + 1) = sumTo (fun k => c (k + 1)) m i
  | 0, _ => rfl
  | m + 1, i => by rw [sumTo, sumTo, sumTo_shift c m (i + 1)]
theorem nth_cons {α : Type} [Inhabited α] (x : α) (l : List α) {k : Int} (h : 0 ≤ k) : nth (x :: l) (k + 1) = nth l k := by
  simp [nth, List.getD, show (k + 1).toNat = k.toNat + 1 by omega]
theorem sum_le {α : Type} [Inhabited α] (g : α → Nat) (c : α → Int) (h : ∀ x, (g x : Int) ≤ c x) : ∀ l : List α, (((l.map g).sum : Nat) : Int) ≤ sumTo (fun k => c (nth l k)) l.length 0
  | [] => by simp [sumTo]
  | x :: l => by
    have ih := sum_le g c h l
    have hx := h x
    rw [List.map_cons, List.sum_cons, List.length_cons, sumTo, sumTo_shift]
    rw [sumTo_congr (d := fun k => c (nth l k)) l.length 0 (fun k hk => by rw [nth_cons x l hk])]
    have : nth (x :: l) 0 = x := rfl
    rw [this]
    omega
theorem le_sum {c : Int → Int} (hc : ∀ i, 0 ≤ c i) : ∀ (m : Nat) (i j : Int), i ≤ j → j < i + m → c j ≤ sumTo c m i
  | 0, i, j, h1, h2 => by omega
  | m + 1, i, j, h1, h2 => by
    have := hc i
    have h3 := sumTo_nonneg hc m (i + 1)
    rw [sumTo]
    by_cases h : i = j
    · subst h; omega
    · have := le_sum hc m (i + 1) j (by omega) (by omega); omega
theorem nth_map {α β : Type} [Inhabited α] [Inhabited β] (f : α → β) (l : List α) {i : Int} (h0 : 0 ≤ i) (h1 : i < l.length) : nth (l.map f) i = f (nth l i) := by
  rw [nth_get h0 h1, nth_get h0 (by simpa using h1)]; simp
theorem nth_def {α : Type} [Inhabited α] {l : List α} {i : Int} (h : ¬(0 ≤ i ∧ i < l.length)) : nth l i = default ∨ (¬0 ≤ i ∧ nth l i = nth l 0) := by
  by_cases h0 : 0 ≤ i
  · left; exact nth_out h0 (by omega)
  · right; exact ⟨h0, by simp [nth, show i.toNat = 0 by omega]⟩
theorem all_nth {α : Type} [Inhabited α] {l : List α} {p : α → Prop} (hd : p default) (h : ∀ i : Int, 0 ≤ i → i < l.length → p (nth l i)) (i : Int) : p (nth l i) := by
  by_cases hi : 0 ≤ i ∧ i < l.length
  · exact h i hi.1 hi.2
  · rcases nth_def hi with e | ⟨h0, e⟩
    · rw [e]; exact hd
    · rw [e]
      by_cases hl : (0 : Int) < l.length
      · exact h 0 (by omega) hl
      · rw [nth_out (by omega) (by omega)]; exact hd
theorem szNode_s {n : RNode} (h : szNode n ≤ 1048576) : NodeS n := ⟨by simp only [szNode] at h; omega, by simp only [szNode] at h; omega⟩
theorem szNodes_s {l : List RNode} (h : szNodes l ≤ 1048576) (i : Int) : NodeS (nth l i) := by
  refine all_nth (p := NodeS) ⟨by decide, by decide⟩ (fun i h0 h1 => szNode_s ?_) i
  have := le_sum (c := fun k => szNode (nth l k)) (fun k => szNode_nonneg _) l.length 0 i h0 (by omega)
  simp only [szNodes] at h
  try dsimp only at this
  omega
theorem szFn_s {f : RFn} (h : szFn f ≤ 1048576) : FnS f := by
  have h1 := szStrs_nonneg (ol f.Vars)
  have h2 := szNodes_nonneg (ol f.Nodes)
  simp only [szFn] at h
  exact ⟨by omega, by omega, by omega, szNodes_s (by omega)⟩
theorem szFns_s {l : List RFn} (h : szFns l ≤ 1048576) (i : Int) : FnS (nth l i) := by
  refine all_nth (p := FnS) ⟨by decide, by decide, by decide, fun i => by rw [show ol (default : RFn).Nodes = [] from rfl]; exact ⟨by simp [nth, List.getD]; decide, by simp [nth, List.getD]; decide⟩⟩ (fun i h0 h1 => szFn_s ?_) i
  have := le_sum (c := fun k => szFn (nth l k)) (fun k => szFn_nonneg _) l.length 0 i h0 (by omega)
  simp only [szFns] at h
  try dsimp only at this
  omega
theorem szFns_len {l : List RFn} (h : szFns l ≤ 1048576) : l.length ≤ 1048576 ∧ total (l.map RFn.to) ≤ 1048576 := by
  have h1 := sumTo_nonneg (c := fun k => szFn (nth l k)) (fun k => szFn_nonneg _) l.length 0
  have h2 := sum_le (fun f : RFn => (ol f.Nodes).length) szFn (fun f => by
    have := szStrs_nonneg (ol f.Vars); have := szNodes_nonneg (ol f.Nodes)
    simp only [szFn]; omega) l
  simp only [szFns] at h
  refine ⟨by omega, ?_⟩
  rw [total, List.map_map]
  have e : (l.map ((fun f : Fn => f.Nodes.length) ∘ RFn.to)) = l.map fun f : RFn => (ol f.Nodes).length := List.map_congr_left fun f _ => by simp [RFn.to]
  rw [e]
  omega
theorem sizedF_to {l : List RFn} (h : szFns l ≤ 1048576) : SizedF (l.map RFn.to) := by
  intro j
  refine all_nth (l := l.map RFn.to) (p := fun f => f.Vars.length ≤ 1048576 ∧ f.Ups.length ≤ 1048576 ∧ f.Nodes.length ≤ 1048576 ∧ Sized f.Nodes) ⟨by decide, by decide, by decide, fun i => by rw [show (default : Fn).Nodes = [] from rfl]; exact ⟨by simp [nth, List.getD]; decide, by simp [nth, List.getD]; decide⟩⟩ (fun i h0 h1 => ?_) j
  rw [List.length_map] at h1
  rw [nth_map RFn.to l h0 h1]
  have hs := szFns_s h i
  refine ⟨hs.v, hs.u, by simpa [RFn.to] using hs.n, fun k => ?_⟩
  refine all_nth (l := (nth l i).to.Nodes) (p := fun n => n.Refs.length ≤ 1048576 ∧ n.Kids.length ≤ 1048576) ⟨by decide, by decide⟩ (fun k k0 k1 => ?_) k
  have k1' : k < (ol (nth l i).Nodes).length := by simpa [RFn.to] using k1
  show (nth ((ol (nth l i).Nodes).map RNode.to) k).Refs.length ≤ 1048576 ∧ (nth ((ol (nth l i).Nodes).map RNode.to) k).Kids.length ≤ 1048576
  rw [nth_map RNode.to _ k0 k1']
  exact ⟨(hs.ns k).r, (hs.ns k).k⟩
end Go.Proofs.Try.Av
end
section
attribute [local congr] ite_congr
set_option maxRecDepth 10000
set_option maxHeartbeats 4000000
namespace Go.Proofs.Try.Av
open Go Go.Av Classical
theorem ei_statement (k : Int) : EP A n_impl_statement [.int .i64 k] = some (.bool (decide (isStat k))) := by
  simp -implicitDefEqProofs +contextual (disch := omega) only [e_impl_statement, u_impl_statement, rr_impl_statement, ↓XD, XU, ↓reduceIte, sevalprocAttr]
  rw [isStat, Bool.decide_and]
theorem ei_expression (k : Int) : EP A n_impl_expression [.int .i64 k] = some (.bool (decide (isExpr k))) := by
  simp -implicitDefEqProofs +contextual (disch := omega) only [e_impl_expression, u_impl_expression, rr_impl_expression, ↓XD, XU, ↓reduceIte, sevalprocAttr]
  rw [isExpr, Bool.decide_and]
theorem ei_IsNaN (x : Nat) : EP A n_math_IsNaN [.flt .f64 x] = some (.bool (!decide (FloatKind.f64.format.order x x = some .eq))) := by
  simp -implicitDefEqProofs +contextual (disch := omega) only [e_math_IsNaN, u_math_IsNaN, rr_math_IsNaN, ↓XD, XU, ↓reduceIte, sevalprocAttr]
theorem ei_declares (k : Int) : EP A n_impl_declares [.int .i64 k] = some (.bool (decide (k = 2 ∨ k = 7 ∨ k = 8 ∨ k = 12))) := by
  simp -implicitDefEqProofs +contextual (disch := omega) only [e_impl_declares, u_impl_declares, rr_impl_declares, ↓XD, XU, ↓reduceIte, sevalprocAttr]
  congr 2; rw [Bool.eq_iff_iff]; simp [or_assoc]
abbrev ikind (ns : List Node) (kids : List Int) (i : Int) : Int := (nth ns (nth kids i)).Kind
theorem ei_kind (i : Int) (ns : List Node) (kids : List Int) (p0 p1 p2 p3 p4 p5 q0 q1 q2 q3 q4 q5 q6 : PV) (i0 : 0 ≤ i) (i1 : i < kids.length) (k0 : 0 ≤ nth kids i) (k1 : nth kids i < ns.length) :
    EP A n_zNo_S1 [.int .i64 i, .fp [p0, p1, p2, p3, p4, p5, .fz (ns.map Node.cells)] 0, .fp [q0, q1, q2, q3, q4, q5, q6, .fz (kids.map fun k => [.int .i64 k])] 0] = some (.int .i64 (ikind ns kids i)) := by
  simp -implicitDefEqProofs +contextual (disch := omega) only [e_zNo_S1, u_zNo_S1, rr_zNo_S1, Node.cells, ↓XD, XU, ↓reduceIte, sevalprocAttr]
theorem ei_is (i k : Int) (ns : List Node) (kids : List Int) (p0 p1 p2 p3 p4 p5 q0 q1 q2 q3 q4 q5 q6 : PV) (i0 : 0 ≤ i) (i1 : i < kids.length) (k0 : 0 ≤ nth kids i) (k1 : nth kids i < ns.length) :
    EP A n_zNo_S3 [.int .i64 i, .int .i64 k, .fp [.fn n_zNo_S1 [.fp [p0, p1, p2, p3, p4, p5, .fz (ns.map Node.cells)] 0, .fp [q0, q1, q2, q3, q4, q5, q6, .fz (kids.map fun k => [.int .i64 k])] 0]] 0] = some (.bool (decide (ikind ns kids i = k))) := by
  simp -implicitDefEqProofs +contextual (disch := omega) only [e_zNo_S3, u_zNo_S3, rr_zNo_S3, ↓XD, XU, ↓reduceIte, sevalprocAttr, ei_kind]
theorem li_all (g : Nat) (P : Int → Prop) (hg : ∀ k, EP A g [.int .i64 k] = some (.bool (decide (P k)))) (f0 : Int) (ns : List Node) (kids : List Int) (p0 p1 p2 p3 p4 p5 q0 q1 q2 q3 q4 q5 q6 : PV) (h0 : 0 ≤ f0) (h1 : f0 ≤ kids.length) (hb : kids.length ≤ 1048576) (hk : ∀ i : Int, 0 ≤ i → i < kids.length → 0 ≤ nth kids i ∧ nth kids i < ns.length) : EV A (.loop (B_zNo_S2 0)) ⟨[(0, .int .i64 f0), (1, .fn g []), (2, .fp [.int .i64 kids.length] 0), (3, .fp [.fn n_zNo_S1 [.fp [p0, p1, p2, p3, p4, p5, .fz (ns.map Node.cells)] 0, .fp [q0, q1, q2, q3, q4, q5, q6, .fz (kids.map fun k => [.int .i64 k])] 0]] 0), (6, .bool false), (7, .int .i64 (f0))], [], [], []⟩ = some (match seek (fun j => ¬P (ikind ns kids j)) f0 kids.length with | some j => (AExit.ret, (⟨[(0, .int .i64 f0), (1, .fn g []), (2, .fp [.int .i64 kids.length] 0), (3, .fp [.fn n_zNo_S1 [.fp [p0, p1, p2, p3, p4, p5, .fz (ns.map Node.cells)] 0, .fp [q0, q1, q2, q3, q4, q5, q6, .fz (kids.map fun k => [.int .i64 k])] 0]] 0), (6, .bool false), (7, .int .i64 j)], [], [], []⟩ : St)) | none => (AExit.exit 0, (⟨[(0, .int .i64 f0), (1, .fn g []), (2, .fp [.int .i64 kids.length] 0), (3, .fp [.fn n_zNo_S1 [.fp [p0, p1, p2, p3, p4, p5, .fz (ns.map Node.cells)] 0, .fp [q0, q1, q2, q3, q4, q5, q6, .fz (kids.map fun k => [.int .i64 k])] 0]] 0), (6, .bool false), (7, .int .i64 (kids.length))], [], [], []⟩ : St))) := by
  refine loop_search (fun i => ⟨[(0, .int .i64 f0), (1, .fn g []), (2, .fp [.int .i64 kids.length] 0), (3, .fp [.fn n_zNo_S1 [.fp [p0, p1, p2, p3, p4, p5, .fz (ns.map Node.cells)] 0, .fp [q0, q1, q2, q3, q4, q5, q6, .fz (kids.map fun k => [.int .i64 k])] 0]] 0), (6, .bool false), (7, .int .i64 i)], [], [], []⟩) (fun j => ¬P (ikind ns kids j)) (fun j => (AExit.ret, (⟨[(0, .int .i64 f0), (1, .fn g []), (2, .fp [.int .i64 kids.length] 0), (3, .fp [.fn n_zNo_S1 [.fp [p0, p1, p2, p3, p4, p5, .fz (ns.map Node.cells)] 0, .fp [q0, q1, q2, q3, q4, q5, q6, .fz (kids.map fun k => [.int .i64 k])] 0]] 0), (6, .bool false), (7, .int .i64 j)], [], [], []⟩ : St))) (AExit.exit 0, (⟨[(0, .int .i64 f0), (1, .fn g []), (2, .fp [.int .i64 kids.length] 0), (3, .fp [.fn n_zNo_S1 [.fp [p0, p1, p2, p3, p4, p5, .fz (ns.map Node.cells)] 0, .fp [q0, q1, q2, q3, q4, q5, q6, .fz (kids.map fun k => [.int .i64 k])] 0]] 0), (6, .bool false), (7, .int .i64 (kids.length))], [], [], []⟩ : St)) (f0) (kids.length) ?_ ?_ ?_ (f0) (by omega) (by omega)
  · intro i hi hn hp
    have hk1 := hk i (by omega) hn
    try simp only [Classical.not_not] at hp
    refine ⟨_, by simp -implicitDefEqProofs +contextual (disch := omega) only [ub_zNo_S2_0, rr_zNo_S2, ↓XD, XU, ↓reduceIte, sevalprocAttr, ei_kind, hg, hn, hp]; rfl, ?_⟩
    first | (simp [St.next, trim_all]; done) | (simp [St.next, trim, bare, refsL, refs, refs]; done)
  · intro i hi hn hp
    have hk1 := hk i (by omega) hn
    refine ⟨by simp -implicitDefEqProofs +contextual (disch := omega) only [ub_zNo_S2_0, rr_zNo_S2, ↓XD, XU, ↓reduceIte, sevalprocAttr, ei_kind, hg, hn, hp], by simp⟩
  · rintro i hi rfl
    refine ⟨by simp -implicitDefEqProofs +contextual (disch := omega) only [ub_zNo_S2_0, rr_zNo_S2, ↓XD, XU, ↓reduceIte, sevalprocAttr, ei_kind, hg, Int.lt_irrefl], by simp⟩
def IAll (P : Int → Prop) (ns : List Node) (kids : List Int) (f : Int) : Prop := ∀ j : Int, f ≤ j → j < kids.length → P (ikind ns kids j)
theorem ei_all (g : Nat) (P : Int → Prop) (hg : ∀ k, EP A g [.int .i64 k] = some (.bool (decide (P k)))) (f0 : Int) (ns : List Node) (kids : List Int) (p0 p1 p2 p3 p4 p5 q0 q1 q2 q3 q4 q5 q6 : PV) (h0 : 0 ≤ f0) (h1 : f0 ≤ kids.length) (hb : kids.length ≤ 1048576) (c : Int) (hc : c = kids.length) (hk : ∀ i : Int, 0 ≤ i → i < kids.length → 0 ≤ nth kids i ∧ nth kids i < ns.length) :
    EP A n_zNo_S2 [.int .i64 f0, .fn g [], .fp [.int .i64 c] 0, .fp [.fn n_zNo_S1 [.fp [p0, p1, p2, p3, p4, p5, .fz (ns.map Node.cells)] 0, .fp [q0, q1, q2, q3, q4, q5, q6, .fz (kids.map fun k => [.int .i64 k])] 0]] 0] = some (.bool (decide (IAll P ns kids f0))) := by
  subst hc
  have hl := li_all g P hg f0 ns kids p0 p1 p2 p3 p4 p5 q0 q1 q2 q3 q4 q5 q6 h0 h1 hb hk
  cases hs : seek (fun j => ¬P (ikind ns kids j)) f0 kids.length with
  | none =>
    have hq : IAll P ns kids f0 := fun j h2 h3 => Classical.not_not.1 (seek_none.1 hs j h2 h3)
    rw [hs] at hl
    simp -implicitDefEqProofs +contextual (disch := omega) only [e_zNo_S2, u_zNo_S2, rr_zNo_S2, ↓XD, XU, ↓reduceIte, sevalprocAttr, hl, hq]
  | some j =>
    obtain ⟨h2, h3, h4, _⟩ := seek_some.1 hs
    have hq : ¬IAll P ns kids f0 := fun h => h4 (h j h2 h3)
    rw [hs] at hl
    simp -implicitDefEqProofs +contextual (disch := omega) only [e_zNo_S2, u_zNo_S2, rr_zNo_S2, ↓XD, XU, ↓reduceIte, sevalprocAttr, hl, hq]
theorem li_fnOk (fs : List Fn) (v1 : PV) (l : List ByteArray) (H : Heap) (hb : l.length ≤ 1048576) : EV A (.loop (B_impl_fnOk 0)) ⟨[(0, unit fs), (1, v1), (2, .ptr 0 0 0 1), (4, .bool false), (5, .ptr 1 0 0 1), (59, strs l), (60, .int .i64 l.length), (61, .int .i64 (0))], [], H, []⟩ = some (match seek (fun j => ((nth l j).size : Int) < 1 ∨ 40 < ((nth l j).size : Int)) 0 l.length with | some j => (AExit.ret, (⟨[(0, unit fs), (1, v1), (2, .ptr 0 0 0 1), (4, .bool false), (5, .ptr 1 0 0 1), (59, strs l), (60, .int .i64 l.length), (61, .int .i64 j), (7, .str (nth l j))], [], H, []⟩ : St)) | none => (AExit.exit 0, (⟨[(0, unit fs), (1, v1), (2, .ptr 0 0 0 1), (4, .bool false), (5, .ptr 1 0 0 1), (59, strs l), (60, .int .i64 l.length), (61, .int .i64 (l.length))], [], H, []⟩ : St))) := by
  refine loop_search (fun i => ⟨[(0, unit fs), (1, v1), (2, .ptr 0 0 0 1), (4, .bool false), (5, .ptr 1 0 0 1), (59, strs l), (60, .int .i64 l.length), (61, .int .i64 i)], [], H, []⟩) (fun j => ((nth l j).size : Int) < 1 ∨ 40 < ((nth l j).size : Int)) (fun j => (AExit.ret, (⟨[(0, unit fs), (1, v1), (2, .ptr 0 0 0 1), (4, .bool false), (5, .ptr 1 0 0 1), (59, strs l), (60, .int .i64 l.length), (61, .int .i64 j), (7, .str (nth l j))], [], H, []⟩ : St))) (AExit.exit 0, (⟨[(0, unit fs), (1, v1), (2, .ptr 0 0 0 1), (4, .bool false), (5, .ptr 1 0 0 1), (59, strs l), (60, .int .i64 l.length), (61, .int .i64 (l.length))], [], H, []⟩ : St)) (0) (l.length) ?_ ?_ ?_ (0) (by omega) (by omega)
  · intro i hi hn hp
    try simp only [Classical.not_not] at hp
    refine ⟨_, by simp -implicitDefEqProofs +contextual (disch := omega) only [ub_impl_fnOk_0, rr_impl_fnOk, ↓XD, XU, ↓reduceIte, sevalprocAttr, strs, hn, hp]; rfl, ?_⟩
    first | (simp [St.next, trim_all]; done) | (simp [St.next, trim, bare, refsL, refs, refs]; done)
  · intro i hi hn hp
    refine ⟨by simp -implicitDefEqProofs +contextual (disch := omega) only [ub_impl_fnOk_0, rr_impl_fnOk, ↓XD, XU, ↓reduceIte, sevalprocAttr, strs, hn, hp], by simp⟩
  · rintro i hi rfl
    refine ⟨by simp -implicitDefEqProofs +contextual (disch := omega) only [ub_impl_fnOk_0, rr_impl_fnOk, ↓XD, XU, ↓reduceIte, sevalprocAttr, strs, Int.lt_irrefl], by simp⟩
theorem ei_fnOk (fs : List Fn) (f : Int) (f0 : 0 ≤ f) (f1 : f < fs.length) (hv : (nth fs f).Vars.length ≤ 1048576) : EP A n_impl_fnOk [unit fs, .int .i64 f] = some (.bool (decide (Head fs f))) := by
  have hl := fun v1 H => li_fnOk fs v1 (nth fs f).Vars H hv
  cases hs : seek (fun j => ((nth (nth fs f).Vars j).size : Int) < 1 ∨ 40 < ((nth (nth fs f).Vars j).size : Int)) 0 (nth fs f).Vars.length with
  | none =>
    have hq : ∀ j : Int, 0 ≤ j → j < (nth fs f).Vars.length → 1 ≤ ((nth (nth fs f).Vars j).size : Int) ∧ ((nth (nth fs f).Vars j).size : Int) ≤ 40 := fun j h2 h3 => by have := seek_none.1 hs j h2 h3; omega
    simp only [hs] at hl
    by_cases hf : f = 0
    · subst hf
      simp -implicitDefEqProofs +contextual (disch := omega) only [e_impl_fnOk, u_impl_fnOk, rr_impl_fnOk, unit, fns, nodes, ints, strs, ups, Fn.cells, ↓XD, XU, ↓reduceIte, sevalprocAttr, hl]
      refine some_bool ?_
      simp only [Head, Bool.and_eq_true, Bool.or_eq_true, Bool.not_eq_true', decide_eq_false_iff_not, decide_eq_true_eq]; grind
    · simp -implicitDefEqProofs +contextual (disch := omega) only [e_impl_fnOk, u_impl_fnOk, rr_impl_fnOk, unit, fns, nodes, ints, strs, ups, Fn.cells, ↓XD, XU, ↓reduceIte, sevalprocAttr, hf, hl]
      refine some_bool ?_
      simp only [Head, Bool.and_eq_true, Bool.or_eq_true, Bool.not_eq_true', decide_eq_false_iff_not, decide_eq_true_eq]; grind
  | some j =>
    obtain ⟨h2, h3, h4, _⟩ := seek_some.1 hs
    have hq : ¬Head fs f := fun h => by have := h.2.2.2.2.2.2.2.2.2 j h2 h3; omega
    simp only [hs] at hl
    simp -implicitDefEqProofs +contextual (disch := omega) only [e_impl_fnOk, u_impl_fnOk, rr_impl_fnOk, unit, fns, nodes, ints, strs, ups, Fn.cells, ↓XD, XU, ↓reduceIte, sevalprocAttr, hl, hq]
end Go.Proofs.Try.Av
end
