/- What the functions that FnExactCaptured reaches give, each with its own bounds. -/
import Derived.Test.YtffiogaamojjeaaCapAv2
import Derived.Test.YtffiogaamojjeaaCapAv3
import Derived.Test.YtffiogaamojjeaaCapCodes
import Derived.Test.YtffiogaamojjeaaCapEp1
import Derived.Test.YtffiogaamojjeaaCapEp2
set_option linter.all false
section
set_option maxRecDepth 10000
set_option maxHeartbeats 1000000
namespace Go.Proofs.Try.Av
open Go Go.Av Classical
theorem brefs_cells {s : Nat} {rows : List (List PV)} {r : Nat} : r ∈ brefs (.cells s rows) ↔ ∃ m : Int, 0 ≤ m ∧ m < rows.length ∧ r ∈ refsL (nth rows m) := by
  show r ∈ rows.flatMap refsL ↔ _
  rw [List.mem_flatMap]
  constructor
  · rintro ⟨x, hx, hr⟩
    obtain ⟨i, hi, rfl⟩ := List.getElem_of_mem hx
    refine ⟨(i : Int), by omega, by omega, ?_⟩
    rw [nth, List.getD_eq_getElem?_getD, Int.toNat_natCast, List.getElem?_eq_getElem hi]; exact hr
  · rintro ⟨m, m0, m1, hr⟩
    refine ⟨nth rows m, ?_, hr⟩
    have hi : m.toNat < rows.length := by omega
    rw [nth, List.getD_eq_getElem?_getD, List.getElem?_eq_getElem hi]
    exact List.getElem_mem hi
theorem nth_set_rows {α : Type} [Inhabited α] {l : List α} {i j : Int} {x : α} (i0 : 0 ≤ i) (i1 : i < l.length) (j0 : 0 ≤ j) : nth (l.set i.toNat x) j = if i = j then x else nth l j := nth_set i0 i1 j0
structure Maps (f : Fn) (cid : Nat) (V : Int → Prop) (H : Heap) (rows : List (List PV)) : Prop where
  blk : H[cid]? = some (.cells 1 rows)
  len : rows.length = f.Nodes.length
  row : ∀ m : Int, 0 ≤ m → m < f.Nodes.length → (nth rows m = [.nilm] ∧ ¬(V m ∧ (nth f.Nodes m).Kind = 26)) ∨ ∃ id b, nth rows m = [.mp id] ∧ H[id]? = some (.map [(.int .i64 (nth (nth f.Nodes m).Refs 0), .bool b)]) ∧ (b = true ↔ 0 ≤ nth (nth f.Nodes m).Refs 0 ∧ nth (nth f.Nodes m).Refs 0 < f.Vars.length ∧ Visible f (growP f.Nodes) m (nth (nth f.Nodes m).Refs 0))
theorem Maps.ref {f : Fn} {cid : Nat} {V : Int → Prop} {H : Heap} {rows : List (List PV)} (h : Maps f cid V H rows) {b : Blk} {r : Nat} (hb : H[cid]? = some b) (hr : r ∈ brefs b) : ∃ (m : Int) (id : Nat), 0 ≤ m ∧ m < f.Nodes.length ∧ nth rows m = [.mp id] ∧ r = id := by
  rw [h.blk] at hb
  cases hb
  obtain ⟨m, m0, m1, hm⟩ := brefs_cells.1 hr
  rw [h.len] at m1
  rcases h.row m m0 m1 with ⟨h1, _⟩ | ⟨id, b, h1, _⟩
  · rw [h1] at hm; simp [refsL, refs] at hm
  · rw [h1] at hm; exact ⟨m, id, m0, m1, h1, by simpa [refsL, refs] using hm⟩
theorem Maps.stable {f : Fn} {cid : Nat} {V : Int → Prop} {H H' : Heap} {rows : List (List PV)} (h : Maps f cid V H rows) (h1 : H'[cid]? = H[cid]?) (h2 : ∀ b r, H[cid]? = some b → r ∈ brefs b → H'[r]? = H[r]?) : Maps f cid V H' rows := by
  refine ⟨by rw [h1, h.blk], h.len, fun m m0 m1 => ?_⟩
  rcases h.row m m0 m1 with h3 | ⟨id, b, h3, h4, h5⟩
  · exact .inl h3
  · refine .inr ⟨id, b, h3, ?_, h5⟩
    rw [h2 _ id h.blk (brefs_cells.2 ⟨m, m0, by rw [h.len]; exact m1, by rw [h3]; simp [refsL, refs]⟩), h4]
def See1 (f : Fn) (hf : FnT f) (h fb cid bid : Nat) (d1 : fb < h) (d2 : cid < h) (d3 : bid < h) (c1 : fb ≠ cid) (c2 : bid ≠ cid) : See f (h + 2) (h + 1) cid (h + 3) n_zCU_S1 [.ptr fb 0 0 1, .ptr bid 0 0 1] where
  Acc V H := ∃ rows, Maps f cid V H rows
  Pre H := H[fb]? = some (.cells 7 [f.cells]) ∧ H[bid]? = some (.cells 1 [[.sl cid 0 f.Nodes.length f.Nodes.length]])
  stable := fun V H H' ⟨rows, h⟩ h1 h2 => ⟨rows, h.stable h1 h2⟩
  maps := fun V H ⟨rows, h⟩ b r hb hr => by
    obtain ⟨m, id, m0, m1, h3, rfl⟩ := h.ref hb hr
    rcases h.row m m0 m1 with ⟨h4, _⟩ | ⟨id, b, h4, h5, _⟩
    · rw [h3] at h4; cases h4
    · rw [h3] at h4; cases h4; exact ⟨_, h5⟩
  pre := fun H H' ⟨h1, h2⟩ h3 => ⟨by rw [h3 fb (by omega) c1 (by omega), h1], by rw [h3 bid (by omega) c2 (by omega), h2]⟩
  see := fun n lp inn V H n0 n1 hc hb ⟨p1, p2⟩ hi ⟨rows, hm⟩ => by
    by_cases hK : (nth f.Nodes n).Kind = 26
    · have hr1 := hf.hr n n0 n1 (.inl hK)
      have hcl : cid < H.length := by omega
      have hp : ∃ p, nth rows n = [p] := by
        rcases hm.row n n0 n1 with ⟨h3, _⟩ | ⟨id, b, h3, _⟩ <;> exact ⟨_, h3⟩
      obtain ⟨p, hp⟩ := hp
      obtain ⟨b, hbv, he⟩ := es_S1_yes f n inn lp H rows fb cid bid (h + 1) n0 n1 hf.hv hf.hg.hb p1 p2 hm.blk hm.len hi hc.len hK hr1 p hp
      refine ⟨_, _, he, ⟨rows.set n.toNat [.mp (H.length + 1)], ?_, by simpa using hm.len, fun m m0 m1 => ?_⟩, ?_, fun id h1 h2 => ?_, fun b2 r h1 h2 => ?_, fun e he => by rw [List.mem_singleton] at he; subst he; simp; omega⟩
      · rw [List.getElem?_set_self (by simp; omega)]
      · rw [nth_set_rows n0 (by rw [hm.len]; exact n1) m0]
        by_cases hnm : n = m
        · subst hnm
          rw [if_pos rfl]
          refine .inr ⟨H.length + 1, b, rfl, ?_, ?_⟩
          · rw [List.getElem?_set_ne (by omega), app_get]; rfl
          · rw [hbv]
            exact ⟨fun h => ⟨h.1, h.2.1, (hc.vis _ h.1 h.2.1).1 h.2.2⟩, fun h => ⟨h.1, h.2.1, (hc.vis _ h.1 h.2.1).2 h.2.2⟩⟩
        · rw [if_neg hnm]
          rcases hm.row m m0 m1 with ⟨h3, h4⟩ | ⟨id, b, h3, h4, h5⟩
          · refine .inl ⟨h3, ?_⟩
            rintro ⟨h5 | h5, h6⟩
            · exact h4 ⟨h5, h6⟩
            · exact hnm h5.symm
          · refine .inr ⟨id, b, h3, ?_, h5⟩
            have hne : cid ≠ id := fun e => by rw [← e, hm.blk] at h4; cases h4
            rw [List.getElem?_set_ne hne]; exact app_old _ _ h4
      · simp
      · rw [List.getElem?_set_ne (Ne.symm h2), List.getElem?_append_left h1]
      · rw [List.getElem?_set_self (by simp; omega)] at h1
        cases h1
        obtain ⟨m, m0, m1, hr⟩ := brefs_cells.1 h2
        rw [nth_set_rows n0 (by rw [hm.len]; exact n1) m0] at hr
        by_cases hnm : n = m
        · rw [if_pos hnm] at hr
          have : r = H.length + 1 := by simpa [refsL, refs] using hr
          subst this
          exact .inr (by simp)
        · rw [if_neg hnm] at hr
          rw [List.length_set] at m1
          exact .inl ⟨_, hm.blk, brefs_cells.2 ⟨m, m0, m1, hr⟩⟩
    · refine ⟨H, [], es_S1_no f n inn lp H rows fb cid bid (h + 1) n0 n1 hf.hv hf.hg.hb p1 p2 hm.blk hm.len hi hc.len hK, ⟨rows, hm.blk, hm.len, fun m m0 m1 => ?_⟩, Nat.le_refl _, fun _ _ _ => rfl, fun b r h1 h2 => .inl ⟨b, h1, h2⟩, fun e he => by cases he⟩
      rcases hm.row m m0 m1 with ⟨h3, h4⟩ | h3
      · refine .inl ⟨h3, ?_⟩
        rintro ⟨h5 | rfl, h6⟩
        · exact h4 ⟨h5, h6⟩
        · exact hK h6
      · exact .inr h3
  c1 := by omega
  i1 := by omega
  s1 := by omega
  ci := by omega
  cs := by omega
  is := by omega
end Go.Proofs.Try.Av
end
section
attribute [local congr] ite_congr
set_option maxRecDepth 10000
set_option maxHeartbeats 1000000
namespace Go.Proofs.Try.Av
open Go Go.Av Classical
section
section
variable (f : Fn) (n : Int) (inn out : List Bool) (lp : Bool) (H : Heap) (fb cid bid iid : Nat) (n0 : 0 ≤ n) (n1 : n < f.Nodes.length) (hv : f.Vars.length ≤ 1048576) (hb : f.Nodes.length ≤ 1048576) (hf : H[fb]? = some (.cells 7 [f.cells])) (hbx : H[bid]? = some (.cells 1 [[.sl cid 0 f.Nodes.length f.Nodes.length]])) (hc : H[cid]? = some (.cells 1 (bl out))) (hr : out.length = f.Nodes.length)
include n0 n1 hv hb hf hbx hc hr
theorem es_S2 : ∃ b : Bool, (b = true ↔ ((nth f.Nodes n).Kind = 9 ∨ (nth f.Nodes n).Kind = 10) ∧ ¬lp = true) ∧ ES A n_zCU_S2 [.int .i64 n, .sl iid 0 f.Vars.length f.Vars.length, .bool lp, .ptr fb 0 0 1, .ptr bid 0 0 1] H = some (.tup [], H.set cid (.cells 1 (bl (out.set n.toNat b))), []) := by
  simp only [Fn.cells, nodes] at hf
  by_cases hK : (nth f.Nodes n).Kind = 9 ∨ (nth f.Nodes n).Kind = 10
  · refine ⟨!lp, by simp [hK], ?_⟩
    rcases hK with hK | hK
    · simp -implicitDefEqProofs +contextual (disch := omega) only [s_zCU_S2, u_zCU_S2, rr_zCU_S2, Fn.cells, Node.cells, strs, ups, nodes, ints, bl, ↓XD, XU, ↓reduceIte, sevalprocAttr, hf, hbx, hc, hr, n0, n1, hK]
      simp [trim_all]
    · simp -implicitDefEqProofs +contextual (disch := omega) only [s_zCU_S2, u_zCU_S2, rr_zCU_S2, Fn.cells, Node.cells, strs, ups, nodes, ints, bl, ↓XD, XU, ↓reduceIte, sevalprocAttr, hf, hbx, hc, hr, n0, n1, hK]
      simp [trim_all]
  · refine ⟨false, by simp [hK], ?_⟩
    have hK := not_or.1 hK
    simp -implicitDefEqProofs +contextual (disch := omega) only [s_zCU_S2, u_zCU_S2, rr_zCU_S2, Fn.cells, Node.cells, strs, ups, nodes, ints, bl, ↓XD, XU, ↓reduceIte, sevalprocAttr, hf, hbx, hc, hr, n0, n1, hK]
    simp [trim_all]
end
end
section
def UpBadI (nv nu : Nat) (inn : List Bool) (p : Up) : Prop := if p.Local = true then ((p.Index < 0 ∨ nv ≤ p.Index) ∨ ¬nth inn p.Index = true) else (p.Index < 0 ∨ nu ≤ p.Index)
noncomputable abbrev gUp (nv nu : Nat) (inn : List Bool) (ps : List Up) (n : Int) (j : Int) (a : List Bool) : List Bool := a.set n.toNat (decide (nth a n = true ∨ UpBadI nv nu inn (nth ps j)))
theorem lw_ups (f : Fn) (n : Int) (inn : List Bool) (lp : Bool) (K : List Bool → Heap) (h fb cid bid ub iid xb : Nat) (ps : List Up) (n0 : 0 ≤ n) (n1 : n < f.Nodes.length) (hv : f.Vars.length ≤ 1048576) (hps : ps.length ≤ 1048576) (hl : inn.length = f.Vars.length) (hk : ∀ a, (K a).length = h) (q1 : ∀ a l, (K a ++ l)[fb]? = some (.cells 7 [f.cells])) (q2 : ∀ a l, (K a ++ l)[cid]? = some (.cells 1 (bl a))) (q3 : ∀ a l, (K a ++ l)[bid]? = some (.cells 1 [[.sl cid 0 f.Nodes.length f.Nodes.length]])) (q4 : ∀ a l, (K a ++ l)[iid]? = some (.cells 1 (bl inn))) (q5 : ∀ a a' l, (K a ++ l).set cid (.cells 1 (bl a')) = K a' ++ l) (d1 : fb < h) (d2 : bid < h) (d3 : ub < h) (d4 : iid < h) (d5 : xb < h) (a0 : List Bool) (hok0 : a0.length = f.Nodes.length) : EV A (.loop (B_zCU_S3 0)) (⟨[(0, .int .i64 n), (1, .sl iid 0 f.Vars.length f.Vars.length), (2, .bool lp), (3, .ptr fb 0 0 1), (4, .ptr bid 0 0 1), (5, .ptr ub 0 0 1), (9, .ptr xb 0 0 1), (37, ups ps), (38, .int .i64 ps.length), (39, .int .i64 (0))], [], K a0, []⟩ : St) = some (AExit.exit 0, (⟨[(0, .int .i64 n), (1, .sl iid 0 f.Vars.length f.Vars.length), (2, .bool lp), (3, .ptr fb 0 0 1), (4, .ptr bid 0 0 1), (5, .ptr ub 0 0 1), (9, .ptr xb 0 0 1), (37, ups ps), (38, .int .i64 ps.length), (39, .int .i64 (ps.length))], [], K (iter (fun (i : Int) (a : List Bool) => gUp f.Vars.length f.Ups.length inn ps n i a) ((ps.length : Int) - 0).toNat (0) a0), []⟩ : St)) ∧ (iter (fun (i : Int) (a : List Bool) => gUp f.Vars.length f.Ups.length inn ps n i a) ((ps.length : Int) - 0).toNat (0) a0).length = f.Nodes.length := by
  refine loop_iter (fun i (a : List Bool) => (⟨[(0, .int .i64 n), (1, .sl iid 0 f.Vars.length f.Vars.length), (2, .bool lp), (3, .ptr fb 0 0 1), (4, .ptr bid 0 0 1), (5, .ptr ub 0 0 1), (9, .ptr xb 0 0 1), (37, ups ps), (38, .int .i64 ps.length), (39, .int .i64 i)], [], K a, []⟩ : St)) (fun (i : Int) (a : List Bool) => gUp f.Vars.length f.Ups.length inn ps n i a) (fun i (a : List Bool) => a.length = f.Nodes.length) (fun a => (AExit.exit 0, (⟨[(0, .int .i64 n), (1, .sl iid 0 f.Vars.length f.Vars.length), (2, .bool lp), (3, .ptr fb 0 0 1), (4, .ptr bid 0 0 1), (5, .ptr ub 0 0 1), (9, .ptr xb 0 0 1), (37, ups ps), (38, .int .i64 ps.length), (39, .int .i64 (ps.length))], [], K a, []⟩ : St))) (0) (ps.length) ?_ ?_ (0) a0 (by omega) (by omega) hok0
  · intro i a hi hn hok
    simp only [Fn.cells, ups] at q1; simp only [gUp, UpBadI]
    by_cases hL : (nth ps i).Local = true
    · refine ⟨⟨_, by simp -implicitDefEqProofs +contextual (disch := omega) only [ub_zCU_S3_0, rr_zCU_S3, ↓XD, XU, ↓reduceIte, sevalprocAttr, bl, ups, Up.cells, q1, q2, q3, q4, q5, hl, hL, hn, hok]; rfl, by first | (simp [St.next, trim_all, hk, d1, d2, d3, d4, d5, Bool.or_assoc, hL]; done) | (simp [St.next, trim_all, hk, d1, d2, d3, d4, d5, Bool.or_assoc, hL]; omega) | (simp [St.next, trim, bare, refsL, refs, hk, d1, d2, d3, d4, d5, Bool.or_assoc, hL]; done)⟩, by simpa using hok⟩
    · refine ⟨⟨_, by simp -implicitDefEqProofs +contextual (disch := omega) only [ub_zCU_S3_0, rr_zCU_S3, ↓XD, XU, ↓reduceIte, sevalprocAttr, bl, ups, Up.cells, q1, q2, q3, q4, q5, hl, hL, hn, hok]; rfl, by first | (simp [St.next, trim_all, hk, d1, d2, d3, d4, d5, Bool.or_assoc, hL]; done) | (simp [St.next, trim_all, hk, d1, d2, d3, d4, d5, Bool.or_assoc, hL]; omega) | (simp [St.next, trim, bare, refsL, refs, hk, d1, d2, d3, d4, d5, Bool.or_assoc, hL]; done)⟩, by simpa using hok⟩
  · rintro i a hi rfl hok
    refine ⟨by simp -implicitDefEqProofs +contextual (disch := omega) only [ub_zCU_S3_0, rr_zCU_S3, ↓XD, XU, ↓reduceIte, sevalprocAttr, bl, ups, Up.cells, q1, q2, q3, q4, q5, hl, Int.lt_irrefl, hok], by simp⟩
theorem gUp_iter (nv nu : Nat) (inn : List Bool) (ps : List Up) (n : Int) (n0 : 0 ≤ n) (out : List Bool) (n1 : n < out.length) : iter (fun (j : Int) (a : List Bool) => gUp nv nu inn ps n j a) ((ps.length : Int) - 0).toNat 0 out = out.set n.toNat (decide (nth out n = true ∨ ∃ j : Int, 0 ≤ j ∧ j < ps.length ∧ UpBadI nv nu inn (nth ps j))) := by
  have := iter_inv (g := fun (j : Int) (a : List Bool) => gUp nv nu inn ps n j a) (fun i (b : List Bool) => b = out.set n.toNat (decide (nth out n = true ∨ ∃ j : Int, 0 ≤ j ∧ j < i ∧ UpBadI nv nu inn (nth ps j)))) 0 (ps.length : Int) (by
    rintro i b i0 i1 rfl
    rw [gUp, List.set_set, nth_set n0 n1 n0, if_pos rfl]
    congr 1
    rw [decide_eq_decide, decide_eq_true_eq]
    constructor
    · rintro ((h | ⟨j, j0, j1, h⟩) | h)
      · exact .inl h
      · exact .inr ⟨j, j0, by omega, h⟩
      · exact .inr ⟨i, i0, by omega, h⟩
    · rintro (h | ⟨j, j0, j1, h⟩)
      · exact .inl (.inl h)
      · by_cases hj : j = i
        · subst hj; exact .inr h
        · exact .inl (.inr ⟨j, j0, by omega, h⟩)) (a := out) (by omega) (by
    refine nth_ext (by simp) fun j j0 j1 => ?_
    rw [nth_set n0 n1 j0]
    by_cases hj : n = j
    · subst hj
      rw [if_pos rfl, Bool.eq_iff_iff, decide_eq_true_eq]
      exact ⟨.inl, fun h => h.elim id (fun ⟨j, j0, j1, _⟩ => by omega)⟩
    · rw [if_neg hj])
  exact this
theorem set_nth_same {out : List Bool} {n : Int} (n0 : 0 ≤ n) (n1 : n < out.length) : out.set n.toNat (nth out n) = out := by
  refine nth_ext (by simp) fun j j0 j1 => ?_
  rw [nth_set n0 n1 j0]
  split
  · rename_i h; rw [h]
  · rfl
section
variable (fs : List Fn) (f : Fn) (n : Int) (inn out : List Bool) (lp : Bool) (H : Heap) (fb cid bid ub iid : Nat) (n0 : 0 ≤ n) (n1 : n < f.Nodes.length) (hv : f.Vars.length ≤ 1048576) (hb : f.Nodes.length ≤ 1048576) (hf : H[fb]? = some (.cells 7 [f.cells])) (hbx : H[bid]? = some (.cells 1 [[.sl cid 0 f.Nodes.length f.Nodes.length]])) (hc : H[cid]? = some (.cells 1 (bl out))) (hr : out.length = f.Nodes.length)
include n0 n1 hv hb hf hbx hc hr
theorem es_S3_37 (hK : (nth f.Nodes n).Kind = 37) : ES A n_zCU_S3 [.int .i64 n, .sl iid 0 f.Vars.length f.Vars.length, .bool lp, .ptr fb 0 0 1, .ptr bid 0 0 1, .ptr ub 0 0 1] H = some (.tup [], H.set cid (.cells 1 (bl (out.set n.toNat (!f.Rest)))), []) := by
  have q1 : ∀ l, (H ++ l)[fb]? = some (.cells 7 [f.cells]) := fun l => app_old _ _ hf
  have q2 : ∀ l, (H ++ l)[bid]? = some (.cells 1 [[.sl cid 0 f.Nodes.length f.Nodes.length]]) := fun l => app_old _ _ hbx
  have q3 : ∀ l, (H ++ l)[cid]? = some (.cells 1 (bl out)) := fun l => app_old _ _ hc
  have hcl := some_lt hc
  have q5 : ∀ b l, (H ++ l).set cid b = H.set cid b ++ l := fun b l => List.set_append_left _ _ hcl
  have q6 : ∀ b x l, (H.set cid b ++ x :: l)[H.length]? = some x := fun b x l => by rw [List.getElem?_append_right (by simp)]; simp
  simp only [Fn.cells, nodes] at hf q1
  simp -implicitDefEqProofs +contextual (disch := omega) only [s_zCU_S3, u_zCU_S3, rr_zCU_S3, Fn.cells, Node.cells, strs, ups, nodes, ints, bl, ↓XD, XU, ↓reduceIte, sevalprocAttr, hf, hbx, hc, hr, n0, n1, hK, q1, q2, q3, q5, q6]
  simp [trim, bare, refsL, refs]
theorem es_S3_no (hK : ¬(nth f.Nodes n).Kind = 37) (hK2 : ¬(nth f.Nodes n).Kind = 36) : ES A n_zCU_S3 [.int .i64 n, .sl iid 0 f.Vars.length f.Vars.length, .bool lp, .ptr fb 0 0 1, .ptr bid 0 0 1, .ptr ub 0 0 1] H = some (.tup [], H, []) := by
  simp only [Fn.cells, nodes] at hf
  simp -implicitDefEqProofs +contextual (disch := omega) only [s_zCU_S3, u_zCU_S3, rr_zCU_S3, Fn.cells, Node.cells, strs, ups, nodes, ints, bl, ↓XD, XU, ↓reduceIte, sevalprocAttr, hf, hbx, hc, hr, n0, n1, hK, hK2]
  simp [trim, bare, refsL, refs]
theorem es_S3_36 (hK : (nth f.Nodes n).Kind = 36) (hk1 : (nth f.Nodes n).Refs.length = 1) (g0 : 0 ≤ nth (nth f.Nodes n).Refs 0) (g1 : nth (nth f.Nodes n).Refs 0 < fs.length) (hu : (nth fs (nth (nth f.Nodes n).Refs 0)).Ups.length ≤ 1048576) (hub : H[ub]? = some (.cells 1 [[fns fs]])) (hi : H[iid]? = some (.cells 1 (bl inn))) (hl : inn.length = f.Vars.length) (c1 : cid ≠ fb) (c2 : cid ≠ bid) (c3 : cid ≠ iid) (c4 : cid ≠ ub) : ES A n_zCU_S3 [.int .i64 n, .sl iid 0 f.Vars.length f.Vars.length, .bool lp, .ptr fb 0 0 1, .ptr bid 0 0 1, .ptr ub 0 0 1] H = some (.tup [], H.set cid (.cells 1 (bl (out.set n.toNat (decide (nth out n = true ∨ ∃ j : Int, 0 ≤ j ∧ j < (nth fs (nth (nth f.Nodes n).Refs 0)).Ups.length ∧ UpBadI f.Vars.length f.Ups.length inn (nth (nth fs (nth (nth f.Nodes n).Refs 0)).Ups j)))))), []) := by
  have hcl := some_lt hc
  have hlp := (lw_ups f n inn lp (fun a => (H ++ [Blk.cells 8 [(nth f.Nodes n).cells]]).set cid (.cells 1 (bl a))) (H.length + 1) fb cid bid ub iid H.length (nth fs (nth (nth f.Nodes n).Refs 0)).Ups n0 n1 hv hu hl (fun a => by simp) (fun a l => app_old _ _ (by rw [List.getElem?_set_ne c1]; exact app_old _ _ hf)) (fun a l => app_old _ _ (by rw [List.getElem?_set_self (by simp; omega)])) (fun a l => app_old _ _ (by rw [List.getElem?_set_ne c2]; exact app_old _ _ hbx)) (fun a l => app_old _ _ (by rw [List.getElem?_set_ne c3]; exact app_old _ _ hi)) (fun a a' l => by rw [List.set_append_left _ _ (by simp; omega), List.set_set]) (by have := some_lt hf; omega) (by have := some_lt hbx; omega) (by have := some_lt hub; omega) (by have := some_lt hi; omega) (by omega) out hr).1
  rw [gUp_iter _ _ _ _ _ n0 _ (by omega)] at hlp
  rw [set_same (app_old _ _ hc)] at hlp
  have q1 : ∀ l, (H ++ l)[fb]? = some (.cells 7 [f.cells]) := fun l => app_old _ _ hf
  have q2 : ∀ l, (H ++ l)[ub]? = some (.cells 1 [[fns fs]]) := fun l => app_old _ _ hub
  simp only [Fn.cells, nodes, fns, ups] at hf q1 q2
  simp only [bl, ups, Node.cells, ints, hK] at hlp
  simp -implicitDefEqProofs +contextual (disch := omega) only [s_zCU_S3, u_zCU_S3, rr_zCU_S3, unit, fns, Fn.cells, Node.cells, strs, ups, nodes, ints, bl, ↓XD, XU, ↓reduceIte, sevalprocAttr, hf, hbx, hc, hr, n0, n1, hK, q1, q2, hlp, hk1, g0, g1]
  simp [trim, bare, refsL, List.set_append_left _ _ hcl]
end
end
end Go.Proofs.Try.Av
end
section
set_option maxRecDepth 10000
set_option maxHeartbeats 1000000
namespace Go.Proofs.Try.Av
open Go Go.Av Classical
theorem brefs_bl (s : Nat) (l : List Bool) (r : Nat) : ¬r ∈ brefs (.cells s (bl l)) := by
  show ¬r ∈ (bl l).flatMap refsL
  rw [List.mem_flatMap]
  rintro ⟨x, hx, hr⟩
  simp only [bl, List.mem_map] at hx
  obtain ⟨b, _, rfl⟩ := hx
  simp [refsL, refs] at hr
structure Marks (f : Fn) (cid : Nat) (B : Int → Prop) (V : Int → Prop) (H : Heap) (out : List Bool) : Prop where
  blk : H[cid]? = some (.cells 1 (bl out))
  len : out.length = f.Nodes.length
  row : ∀ m : Int, 0 ≤ m → m < f.Nodes.length → (nth out m = true ↔ V m ∧ B m)
def SeeM (f : Fn) (h cid g : Nat) (caps : List PV) (B : Int → Prop) (P : Heap → Prop) (d2 : cid < h) (hP : ∀ H H' : Heap, P H → (∀ id, id < h → id ≠ cid → H'[id]? = H[id]?) → P H')
    (hs : ∀ (n : Int) lp inn (out : List Bool) H, 0 ≤ n → n < f.Nodes.length → Ctx f n lp inn → h + 3 ≤ H.length → P H → H[h + 1]? = some (.cells 1 (bl inn)) → H[cid]? = some (.cells 1 (bl out)) → out.length = f.Nodes.length → (nth out n = true → B n) →
      ∃ b : Bool, (b = true ↔ B n) ∧ ES A g (.int .i64 n :: .sl (h + 1) 0 f.Vars.length f.Vars.length :: .bool lp :: caps) H = some (.tup [], H.set cid (.cells 1 (bl (out.set n.toNat b))), [])) :
    See f (h + 2) (h + 1) cid (h + 3) g caps where
  Acc V H := ∃ out, Marks f cid B V H out
  Pre := P
  stable := fun V H H' ⟨out, hm⟩ h1 h2 => ⟨out, by rw [h1, hm.blk], hm.len, hm.row⟩
  maps := fun V H ⟨out, hm⟩ b r hb hr => by
    rw [hm.blk] at hb; cases hb
    exact absurd hr (brefs_bl _ _ _)
  pre := fun H H' h1 h3 => hP H H' h1 fun id h4 h5 => h3 id (by omega) h5 (by omega)
  see := fun n lp inn V H n0 n1 hc hb hp hi ⟨out, hm⟩ => by
    obtain ⟨b, hbv, he⟩ := hs n lp inn out H n0 n1 hc hb hp hi hm.blk hm.len (fun h => ((hm.row n n0 n1).1 h).2)
    refine ⟨_, _, he, ⟨out.set n.toNat b, List.getElem?_set_self (by omega), by simpa using hm.len, fun m m0 m1 => ?_⟩, by simp, fun id h1 h2 => List.getElem?_set_ne (Ne.symm h2), fun b2 r h1 h2 => ?_, fun e he => by cases he⟩
    · rw [nth_set n0 (by rw [hm.len]; exact n1) m0]
      by_cases hnm : n = m
      · subst hnm
        rw [if_pos rfl, hbv]
        exact ⟨fun h => ⟨.inr rfl, h⟩, fun h => h.2⟩
      · rw [if_neg hnm, hm.row m m0 m1]
        exact ⟨fun h => ⟨.inl h.1, h.2⟩, fun h => ⟨h.1.resolve_right (fun e => hnm e.symm), h.2⟩⟩
    · rw [List.getElem?_set_self (by omega)] at h1; cases h1
      exact absurd h2 (brefs_bl _ _ _)
  c1 := by omega
  i1 := by omega
  s1 := by omega
  ci := by omega
  cs := by omega
  is := by omega
def See2 (f : Fn) (hf : FnT f) (h fb cid bid : Nat) (d1 : fb < h) (d2 : cid < h) (d3 : bid < h) (c1 : fb ≠ cid) (c2 : bid ≠ cid) : See f (h + 2) (h + 1) cid (h + 3) n_zCU_S2 [.ptr fb 0 0 1, .ptr bid 0 0 1] :=
  SeeM f h cid n_zCU_S2 [.ptr fb 0 0 1, .ptr bid 0 0 1] (fun n => bad7 f.Nodes (growP f.Nodes) n) (fun H => H[fb]? = some (.cells 7 [f.cells]) ∧ H[bid]? = some (.cells 1 [[.sl cid 0 f.Nodes.length f.Nodes.length]])) d2
    (fun H H' ⟨h1, h2⟩ h3 => ⟨by rw [h3 fb (by omega) c1, h1], by rw [h3 bid (by omega) c2, h2]⟩)
    (fun n lp inn out H n0 n1 hc hb ⟨p1, p2⟩ hi hbl hl hB => by
      obtain ⟨b, hb1, hb2⟩ := es_S2 f n out lp H fb cid bid (h + 1) n0 n1 hf.hv hf.hg.hb p1 p2 hbl hl
      refine ⟨b, ?_, hb2⟩
      rw [hb1, hc.loop])
def Bad8 (fs : List Fn) (fi n : Int) : Prop := ((nth (nth fs fi).Nodes n).Kind = 37 ∧ ¬(nth fs fi).Rest = true) ∨ ((nth (nth fs fi).Nodes n).Kind = 36 ∧ ¬UpsOk fs fi (growP (nth fs fi).Nodes) n (nth (nth (nth fs fi).Nodes n).Refs 0))
def See3 (fs : List Fn) (fi : Int) (hf : FnT (nth fs fi)) (hu : ∀ k : Int, 0 ≤ k → k < fs.length → (nth fs k).Ups.length ≤ 1048576) (hg : ∀ n : Int, 0 ≤ n → n < (nth fs fi).Nodes.length → (nth (nth fs fi).Nodes n).Kind = 36 → 0 ≤ nth (nth (nth fs fi).Nodes n).Refs 0 ∧ nth (nth (nth fs fi).Nodes n).Refs 0 < fs.length) (h fb cid bid ub : Nat) (d1 : fb < h) (d2 : cid < h) (d3 : bid < h) (d4 : ub < h) (c1 : fb ≠ cid) (c2 : bid ≠ cid) (c3 : ub ≠ cid) : See (nth fs fi) (h + 2) (h + 1) cid (h + 3) n_zCU_S3 [.ptr fb 0 0 1, .ptr bid 0 0 1, .ptr ub 0 0 1] :=
  SeeM (nth fs fi) h cid n_zCU_S3 [.ptr fb 0 0 1, .ptr bid 0 0 1, .ptr ub 0 0 1] (Bad8 fs fi) (fun H => H[fb]? = some (.cells 7 [(nth fs fi).cells]) ∧ H[bid]? = some (.cells 1 [[.sl cid 0 (nth fs fi).Nodes.length (nth fs fi).Nodes.length]]) ∧ H[ub]? = some (.cells 1 [[fns fs]])) d2
    (fun H H' ⟨h1, h2, h4⟩ h3 => ⟨by rw [h3 fb (by omega) c1, h1], by rw [h3 bid (by omega) c2, h2], by rw [h3 ub (by omega) c3, h4]⟩)
    (fun n lp inn out H n0 n1 hc hb ⟨p1, p2, p3⟩ hi hbl hl hB => by
      by_cases k1 : (nth (nth fs fi).Nodes n).Kind = 37
      · exact ⟨_, by simp [Bad8, k1], es_S3_37 (nth fs fi) n out lp H fb cid bid ub (h + 1) n0 n1 hf.hv hf.hg.hb p1 p2 hbl hl k1⟩
      · by_cases k2 : (nth (nth fs fi).Nodes n).Kind = 36
        · have g := hg n n0 n1 k2
          refine ⟨_, ?_, es_S3_36 fs (nth fs fi) n inn out lp H fb cid bid ub (h + 1) n0 n1 hf.hv hf.hg.hb p1 p2 hbl hl k2 (hf.hr n n0 n1 (.inr (.inr k2))) g.1 g.2 (hu _ g.1 g.2) p3 hi hc.len (Ne.symm c1) (Ne.symm c2) (by omega) (Ne.symm c3)⟩
          have hub : ∀ p : Up, UpBadI (nth fs fi).Vars.length (nth fs fi).Ups.length inn p ↔ (if p.Local = true then ((p.Index < 0 ∨ (nth fs fi).Vars.length ≤ p.Index) ∨ ¬Visible (nth fs fi) (growP (nth fs fi).Nodes) n p.Index) else (p.Index < 0 ∨ (nth fs fi).Ups.length ≤ p.Index)) := fun p => by
            rw [UpBadI]
            by_cases hL : p.Local = true
            · rw [if_pos hL, if_pos hL]
              by_cases hr : p.Index < 0 ∨ (nth fs fi).Vars.length ≤ p.Index
              · simp [hr]
              · rw [hc.vis p.Index (by omega) (by omega)]
            · rw [if_neg hL, if_neg hL]
          have hx : (∃ j : Int, 0 ≤ j ∧ j < (nth fs (nth (nth (nth fs fi).Nodes n).Refs 0)).Ups.length ∧ UpBadI (nth fs fi).Vars.length (nth fs fi).Ups.length inn (nth (nth fs (nth (nth (nth fs fi).Nodes n).Refs 0)).Ups j)) ↔ Bad8 fs fi n := by
            rw [Bad8, UpsOk]
            constructor
            · rintro ⟨j, j0, j1, h⟩
              exact .inr ⟨k2, fun hh => hh j j0 j1 ((hub _).1 h)⟩
            · rintro (h | ⟨_, h⟩)
              · omega
              · refine Classical.byContradiction fun hh => h fun j j0 j1 hj => hh ⟨j, j0, j1, (hub _).2 hj⟩
          rw [decide_eq_true_eq, hx]
          exact ⟨fun h => h.elim hB id, .inr⟩
        · refine ⟨nth out n, ⟨hB, fun h => ?_⟩, ?_⟩
          · rcases h with h | h
            · exact absurd h.1 k1
            · exact absurd h.1 k2
          · rw [set_nth_same n0 (by rw [hl]; exact n1), set_same hbl]
            exact es_S3_no (nth fs fi) n out lp H fb cid bid ub (h + 1) n0 n1 hf.hv hf.hg.hb p1 p2 hbl hl k1 k2)
end Go.Proofs.Try.Av
end
section
attribute [local congr] ite_congr
set_option maxRecDepth 10000
set_option maxHeartbeats 1000000
namespace Go.Proofs.Try.Av
open Go Go.Av Classical
theorem trim_id {H : Heap} {ed : Edges} (h : ∀ e ∈ ed, e.2 < H.length) (roots : List PV) : trim H.length roots H ed = (H, ed) := by
  rcases trim_cases H.length roots H ed with e | ⟨e, _⟩
  · exact e
  · rw [e, List.take_of_length_le (Nat.le_refl _), List.filter_eq_self.2 (fun e he => by simpa using h e he)]
theorem trim_cut {H : Heap} {ed : Edges} {k c : Nat} (hc : k ≤ c) (h : ∀ e ∈ ed, (e.1 = c ∧ c < e.2)) (roots : List PV) (hr : bare k (refsL roots) = true) : trim k roots H ed = (H.take k, []) := by
  have h1 : (ed.all fun e => decide (k ≤ e.1) || decide (e.2 < k)) = true := by
    rw [List.all_eq_true]
    intro e he
    have := h e he
    simp; omega
  have h2 : (ed.filter fun e => decide (e.2 < k)) = [] := by
    rw [List.filter_eq_nil_iff]
    intro e he
    have := h e he
    simp; omega
  rw [trim, hr, h1]
  simp only [Bool.and_self, h2]
theorem li_17 (fs : List Fn) (f : Fn) (t fi : Int) (H : Heap) (ed : Edges) (out : List Bool) (hb : f.Nodes.length ≤ 1048576) (hl : out.length = f.Nodes.length) (q1 : H[4]? = some (.cells 1 [[.sl 3 0 f.Nodes.length f.Nodes.length]])) (q2 : H[3]? = some (.cells 1 (bl out))) (q3 : H[1]? = some (.cells 3 [[.int .i64 0, .int .i64 0, .int .i64 0]])) (hT : ∀ roots, trim H.length roots H ed = (H, ed)) : match seek (fun (j : Int) => nth out j = true) 0 f.Nodes.length with | some j => ∃ st, EV A (.loop (B_zCU 17)) (⟨[(0, unit fs), (1, .ptr 0 0 0 1), (2, .ptr 1 0 0 1), (3, .int .i64 t), (49, fns fs), (50, .int .i64 fs.length), (51, .int .i64 fs.length), (78, .int .i64 fs.length), (79, .int .i64 fs.length), (90, fns fs), (91, .int .i64 fs.length), (92, .int .i64 fs.length), (113, fns fs), (114, .int .i64 fs.length), (115, .int .i64 fs.length), (186, fns fs), (187, .int .i64 fs.length), (188, .int .i64 fs.length), (242, fns fs), (243, .int .i64 fs.length), (244, .int .i64 fs.length), (362, fns fs), (363, .int .i64 fs.length), (364, .int .i64 fi), (37, .ptr 2 0 0 1), (36, .int .i64 fi), (38, .ptr 4 0 0 1), (377, .int .i64 f.Nodes.length), (378, .int .i64 (0))], [], H, ed⟩ : St) = some (.ret, st) ∧ ResAt 2 1 3 (flt3 7 fi j) st | none => EV A (.loop (B_zCU 17)) (⟨[(0, unit fs), (1, .ptr 0 0 0 1), (2, .ptr 1 0 0 1), (3, .int .i64 t), (49, fns fs), (50, .int .i64 fs.length), (51, .int .i64 fs.length), (78, .int .i64 fs.length), (79, .int .i64 fs.length), (90, fns fs), (91, .int .i64 fs.length), (92, .int .i64 fs.length), (113, fns fs), (114, .int .i64 fs.length), (115, .int .i64 fs.length), (186, fns fs), (187, .int .i64 fs.length), (188, .int .i64 fs.length), (242, fns fs), (243, .int .i64 fs.length), (244, .int .i64 fs.length), (362, fns fs), (363, .int .i64 fs.length), (364, .int .i64 fi), (37, .ptr 2 0 0 1), (36, .int .i64 fi), (38, .ptr 4 0 0 1), (377, .int .i64 f.Nodes.length), (378, .int .i64 (0))], [], H, ed⟩ : St) = some (AExit.exit 35, (⟨[(0, unit fs), (1, .ptr 0 0 0 1), (2, .ptr 1 0 0 1), (3, .int .i64 t), (49, fns fs), (50, .int .i64 fs.length), (51, .int .i64 fs.length), (78, .int .i64 fs.length), (79, .int .i64 fs.length), (90, fns fs), (91, .int .i64 fs.length), (92, .int .i64 fs.length), (113, fns fs), (114, .int .i64 fs.length), (115, .int .i64 fs.length), (186, fns fs), (187, .int .i64 fs.length), (188, .int .i64 fs.length), (242, fns fs), (243, .int .i64 fs.length), (244, .int .i64 fs.length), (362, fns fs), (363, .int .i64 fs.length), (364, .int .i64 fi), (37, .ptr 2 0 0 1), (36, .int .i64 fi), (38, .ptr 4 0 0 1), (377, .int .i64 f.Nodes.length), (378, .int .i64 (f.Nodes.length))], [], H, ed⟩ : St)) := by
  refine loop_seek (fun i => (⟨[(0, unit fs), (1, .ptr 0 0 0 1), (2, .ptr 1 0 0 1), (3, .int .i64 t), (49, fns fs), (50, .int .i64 fs.length), (51, .int .i64 fs.length), (78, .int .i64 fs.length), (79, .int .i64 fs.length), (90, fns fs), (91, .int .i64 fs.length), (92, .int .i64 fs.length), (113, fns fs), (114, .int .i64 fs.length), (115, .int .i64 fs.length), (186, fns fs), (187, .int .i64 fs.length), (188, .int .i64 fs.length), (242, fns fs), (243, .int .i64 fs.length), (244, .int .i64 fs.length), (362, fns fs), (363, .int .i64 fs.length), (364, .int .i64 fi), (37, .ptr 2 0 0 1), (36, .int .i64 fi), (38, .ptr 4 0 0 1), (377, .int .i64 f.Nodes.length), (378, .int .i64 i)], [], H, ed⟩ : St)) (fun (j : Int) => nth out j = true) (fun (j : Int) (st : St) => ResAt 2 1 3 (flt3 7 fi j) st) (AExit.exit 35, (⟨[(0, unit fs), (1, .ptr 0 0 0 1), (2, .ptr 1 0 0 1), (3, .int .i64 t), (49, fns fs), (50, .int .i64 fs.length), (51, .int .i64 fs.length), (78, .int .i64 fs.length), (79, .int .i64 fs.length), (90, fns fs), (91, .int .i64 fs.length), (92, .int .i64 fs.length), (113, fns fs), (114, .int .i64 fs.length), (115, .int .i64 fs.length), (186, fns fs), (187, .int .i64 fs.length), (188, .int .i64 fs.length), (242, fns fs), (243, .int .i64 fs.length), (244, .int .i64 fs.length), (362, fns fs), (363, .int .i64 fs.length), (364, .int .i64 fi), (37, .ptr 2 0 0 1), (36, .int .i64 fi), (38, .ptr 4 0 0 1), (377, .int .i64 f.Nodes.length), (378, .int .i64 (f.Nodes.length))], [], H, ed⟩ : St)) (0) (f.Nodes.length) ?_ ?_ ?_ (0) (by omega) (by omega)
  · intro i hi hn hp
    try simp only [Classical.not_not] at hp
    refine ⟨_, by simp -implicitDefEqProofs +contextual (disch := omega) only [ub_zCU_17, rr_zCU, ↓XD, XU, ↓reduceIte, sevalprocAttr, bl, q1, q2, q3, hl, hn, hp]; rfl, by first | (simp [St.next, trim_all, hT]; done) | (simp [St.next, trim_all, hT]; omega) | (simp [St.next, trim, bare, refsL, refs, hT]; done)⟩
  · intro i hi hn hp
    refine ⟨_, by simp -implicitDefEqProofs +contextual (disch := omega) only [ub_zCU_17, rr_zCU, ↓XD, XU, ↓reduceIte, sevalprocAttr, bl, q1, q2, q3, hl, hn, hp]; rfl, by simp [ResAt, Env.get, Env.put, List.getElem?_set_self (some_lt q3)]⟩
  · rintro i hi rfl
    refine ⟨by simp -implicitDefEqProofs +contextual (disch := omega) only [ub_zCU_17, rr_zCU, ↓XD, XU, ↓reduceIte, sevalprocAttr, bl, q1, q2, q3, hl, Int.lt_irrefl], by simp⟩
theorem trim_app {n : Nat} {roots : List PV} {H l : Heap} {ed : Edges} (hb : bare n (refsL roots) = true) (hn : H.length = n) (he : ∀ e ∈ ed, e.2 < n) : trim n roots (H ++ l) ed = (H, ed) := by
  subst hn
  have h1 : (ed.all fun e => decide (H.length ≤ e.1) || decide (e.2 < H.length)) = true := by
    rw [List.all_eq_true]; intro e h; simp [he e h]
  have h2 : (ed.filter fun e => decide (e.2 < H.length)) = ed := List.filter_eq_self.2 (fun e h => by simpa using he e h)
  rw [trim, hb, h1]
  simp only [Bool.and_self, h2, List.take_left]
theorem next_cut {st0 : St} {per : Env} {H : Heap} {ed : Edges} {c : Nat} (hc : st0.H.length ≤ c) (h : ∀ e ∈ ed, e.1 = c ∧ c < e.2) (hb : bare st0.H.length (refsL ((per.take st0.per.length).map (·.2))) = true) : st0.next ⟨per, [], H, ed⟩ = ⟨per.take st0.per.length, [], H.take st0.H.length, []⟩ := by
  simp only [St.next]
  rw [trim_cut hc h _ hb]
theorem take_two {H : Heap} {a b : Blk} (h0 : H[0]? = some a) (h1 : H[1]? = some b) : H.take 2 = [a, b] := by
  match H with
  | [] => cases h0
  | [x] => cases h1
  | x :: y :: H => cases h0; cases h1; rfl
theorem nth_falses (n : Nat) (j : Int) : nth (List.replicate n false) j = false := by
  simp only [nth, List.getD, List.getElem?_replicate]; split <;> rfl
abbrev h5 (b0 b1 : Blk) (f : Fn) (rows : List (List PV)) : Heap := [b0, b1, .cells 7 [f.cells], .cells 1 rows, .cells 1 [[.sl 3 0 f.Nodes.length f.Nodes.length]]]
theorem scopes2 (b0 b1 : Blk) (f : Fn) (hf : FnT f) : ∃ H' ed' out, ES A n_impl_scopes [.agg f.cells, .fn n_zCU_S2 [.ptr 2 0 0 1, .ptr 4 0 0 1]] (h5 b0 b1 f (bl (List.replicate f.Nodes.length false))) = some (.tup [], H', ed') ∧ H'[0]? = some b0 ∧ H'[1]? = some b1 ∧ H'[2]? = some (.cells 7 [f.cells]) ∧ H'[4]? = some (.cells 1 [[.sl 3 0 f.Nodes.length f.Nodes.length]]) ∧ H'[3]? = some (.cells 1 (bl out)) ∧ out.length = f.Nodes.length ∧ (∀ m : Int, 0 ≤ m → m < f.Nodes.length → (nth out m = true ↔ bad7 f.Nodes (growP f.Nodes) m)) ∧ 5 ≤ H'.length ∧ ∀ e ∈ ed', (e.1 = 3 ∧ 3 < e.2) ∧ e.2 < H'.length := by
  obtain ⟨H', ed', h1, ⟨out, hm⟩, h2, h3, h4⟩ := es_scopes hf (h5 b0 b1 f (bl (List.replicate f.Nodes.length false))) (cid := 3) (by simp [h5]) (See2 f hf 5 2 3 4 (by decide) (by decide) (by decide) (by decide) (by decide)) ⟨rfl, rfl⟩ ⟨List.replicate f.Nodes.length false, ⟨rfl, by simp, fun m _ _ => by rw [nth_falses]; simp⟩⟩
  exact ⟨H', ed', out, h1, h2 0 (by simp [h5]) (by decide), h2 1 (by simp [h5]) (by decide), h2 2 (by simp [h5]) (by decide), h2 4 (by simp [h5]) (by decide), hm.blk, hm.len, fun m m0 m1 => by rw [hm.row m m0 m1]; exact ⟨fun h => h.2, fun h => ⟨⟨m0, m1⟩, h⟩⟩, h3, h4⟩
theorem li_16 (fs : List Fn) (t : Int) (hb : fs.length ≤ 1048576) (hF : ∀ f : Int, 0 ≤ f → f < fs.length → FnT (nth fs f)) : match seek (fun (j : Int) => badLoop fs j ≠ none) 0 fs.length with | some j => ∃ st, EV A (.loop (B_zCU 16)) (⟨[(0, unit fs), (1, .ptr 0 0 0 1), (2, .ptr 1 0 0 1), (3, .int .i64 t), (49, fns fs), (50, .int .i64 fs.length), (51, .int .i64 fs.length), (78, .int .i64 fs.length), (79, .int .i64 fs.length), (90, fns fs), (91, .int .i64 fs.length), (92, .int .i64 fs.length), (113, fns fs), (114, .int .i64 fs.length), (115, .int .i64 fs.length), (186, fns fs), (187, .int .i64 fs.length), (188, .int .i64 fs.length), (242, fns fs), (243, .int .i64 fs.length), (244, .int .i64 fs.length), (362, fns fs), (363, .int .i64 fs.length), (364, .int .i64 (0))], [], hU fs, []⟩ : St) = some (.ret, st) ∧ ResAt 2 1 3 (flt3 7 j ((badLoop fs j).getD 0)) st | none => EV A (.loop (B_zCU 16)) (⟨[(0, unit fs), (1, .ptr 0 0 0 1), (2, .ptr 1 0 0 1), (3, .int .i64 t), (49, fns fs), (50, .int .i64 fs.length), (51, .int .i64 fs.length), (78, .int .i64 fs.length), (79, .int .i64 fs.length), (90, fns fs), (91, .int .i64 fs.length), (92, .int .i64 fs.length), (113, fns fs), (114, .int .i64 fs.length), (115, .int .i64 fs.length), (186, fns fs), (187, .int .i64 fs.length), (188, .int .i64 fs.length), (242, fns fs), (243, .int .i64 fs.length), (244, .int .i64 fs.length), (362, fns fs), (363, .int .i64 fs.length), (364, .int .i64 (0))], [], hU fs, []⟩ : St) = some (AExit.exit 33, (⟨[(0, unit fs), (1, .ptr 0 0 0 1), (2, .ptr 1 0 0 1), (3, .int .i64 t), (49, fns fs), (50, .int .i64 fs.length), (51, .int .i64 fs.length), (78, .int .i64 fs.length), (79, .int .i64 fs.length), (90, fns fs), (91, .int .i64 fs.length), (92, .int .i64 fs.length), (113, fns fs), (114, .int .i64 fs.length), (115, .int .i64 fs.length), (186, fns fs), (187, .int .i64 fs.length), (188, .int .i64 fs.length), (242, fns fs), (243, .int .i64 fs.length), (244, .int .i64 fs.length), (362, fns fs), (363, .int .i64 fs.length), (364, .int .i64 (fs.length))], [], hU fs, []⟩ : St)) := by
  refine loop_seek (fun i => (⟨[(0, unit fs), (1, .ptr 0 0 0 1), (2, .ptr 1 0 0 1), (3, .int .i64 t), (49, fns fs), (50, .int .i64 fs.length), (51, .int .i64 fs.length), (78, .int .i64 fs.length), (79, .int .i64 fs.length), (90, fns fs), (91, .int .i64 fs.length), (92, .int .i64 fs.length), (113, fns fs), (114, .int .i64 fs.length), (115, .int .i64 fs.length), (186, fns fs), (187, .int .i64 fs.length), (188, .int .i64 fs.length), (242, fns fs), (243, .int .i64 fs.length), (244, .int .i64 fs.length), (362, fns fs), (363, .int .i64 fs.length), (364, .int .i64 i)], [], hU fs, []⟩ : St)) (fun (j : Int) => badLoop fs j ≠ none) (fun (j : Int) (st : St) => ResAt 2 1 3 (flt3 7 j ((badLoop fs j).getD 0)) st) (AExit.exit 33, (⟨[(0, unit fs), (1, .ptr 0 0 0 1), (2, .ptr 1 0 0 1), (3, .int .i64 t), (49, fns fs), (50, .int .i64 fs.length), (51, .int .i64 fs.length), (78, .int .i64 fs.length), (79, .int .i64 fs.length), (90, fns fs), (91, .int .i64 fs.length), (92, .int .i64 fs.length), (113, fns fs), (114, .int .i64 fs.length), (115, .int .i64 fs.length), (186, fns fs), (187, .int .i64 fs.length), (188, .int .i64 fs.length), (242, fns fs), (243, .int .i64 fs.length), (244, .int .i64 fs.length), (362, fns fs), (363, .int .i64 fs.length), (364, .int .i64 (fs.length))], [], hU fs, []⟩ : St)) (0) (fs.length) ?_ ?_ ?_ (0) (by omega) (by omega)
  · intro i hi hn hp
    have hf := hF i hi hn; have hg1 := hf.hg.hb; obtain ⟨H', ed', out, he, q0, q1, q2, q4, q3, hl, ho, hlen, hed⟩ := scopes2 (.cells 1 [[fns fs]]) (.cells 3 [[.int .i64 0, .int .i64 0, .int .i64 0]]) (nth fs i) hf; have hl7 := li_17 fs (nth fs i) t i H' ed' out hg1 hl q4 q3 q1 (fun roots => trim_id (fun e h => (hed e h).2) roots); have hsk : badLoop fs i = seek (fun j => nth out j = true) 0 (nth fs i).Nodes.length := (seek_congr fun m m0 m1 => (ho m m0 m1).symm); rw [← hsk] at hl7; simp only [h5, bl, fns, Fn.cells, nodes, strs, ups] at he q2 q4; simp only [bl] at q3
    have hp' : badLoop fs i = none := by simpa using hp
    rw [hp'] at hl7
    simp only [unit, fns] at hl7
    refine ⟨_, by (simp -implicitDefEqProofs +contextual (disch := omega) only [ub_zCU_16, rr_zCU, hU, unit, fns, Fn.cells, nodes, strs, ups, bl, ↓XD, XU, ↓reduceIte, sevalprocAttr, hn, he, q2, q3, q4, hl, hl7]) <;> rfl, ?_⟩
    refine (next_cut (c := 3) ?_ (fun e h => (hed e h).1) ?_).trans ?_
    · exact (show (2 : Nat) ≤ 3 by decide)
    · simp [bare, refsL, refs]
    · show (⟨_, [], List.take 2 H', []⟩ : St) = _
      rw [take_two q0 q1]; rfl
  · intro i hi hn hp
    have hf := hF i hi hn; have hg1 := hf.hg.hb; obtain ⟨H', ed', out, he, q0, q1, q2, q4, q3, hl, ho, hlen, hed⟩ := scopes2 (.cells 1 [[fns fs]]) (.cells 3 [[.int .i64 0, .int .i64 0, .int .i64 0]]) (nth fs i) hf; have hl7 := li_17 fs (nth fs i) t i H' ed' out hg1 hl q4 q3 q1 (fun roots => trim_id (fun e h => (hed e h).2) roots); have hsk : badLoop fs i = seek (fun j => nth out j = true) 0 (nth fs i).Nodes.length := (seek_congr fun m m0 m1 => (ho m m0 m1).symm); rw [← hsk] at hl7; simp only [h5, bl, fns, Fn.cells, nodes, strs, ups] at he q2 q4; simp only [bl] at q3
    obtain ⟨k, hk⟩ := Option.ne_none_iff_exists'.1 hp
    rw [hk] at hl7
    obtain ⟨st, hl7, hg⟩ := hl7
    simp only [unit, fns] at hl7
    refine ⟨_, by (simp -implicitDefEqProofs +contextual (disch := omega) only [ub_zCU_16, rr_zCU, hU, unit, fns, Fn.cells, nodes, strs, ups, bl, ↓XD, XU, ↓reduceIte, sevalprocAttr, hn, he, q2, q3, q4, hl, hl7]) <;> rfl, by rw [hk]; exact hg⟩
  · rintro i hi rfl
    refine ⟨by simp -implicitDefEqProofs +contextual (disch := omega) only [ub_zCU_16, rr_zCU, ↓XD, XU, ↓reduceIte, sevalprocAttr, hU, unit, fns, Fn.cells, nodes, strs, ups, Int.lt_irrefl], by simp⟩
theorem li_13 (fs : List Fn) (f : Fn) (t fi : Int) (H : Heap) (ed : Edges) (hv : f.Vars.length ≤ 1048576) (hp0 : 0 ≤ f.Params) (hp : f.Params ≤ f.Vars.length) (hT : ∀ (x : Blk) roots, trim (H.length + 1) roots (H ++ [x]) ed = (H ++ [x], ed)) (a0 : List Bool) (hok0 : a0.length = f.Vars.length) : EV A (.loop (B_zCU 13)) (⟨[(0, unit fs), (1, .ptr 0 0 0 1), (2, .ptr 1 0 0 1), (3, .int .i64 t), (49, fns fs), (50, .int .i64 fs.length), (51, .int .i64 fs.length), (78, .int .i64 fs.length), (79, .int .i64 fs.length), (90, fns fs), (91, .int .i64 fs.length), (92, .int .i64 fs.length), (113, fns fs), (114, .int .i64 fs.length), (115, .int .i64 fs.length), (186, fns fs), (187, .int .i64 fs.length), (188, .int .i64 fs.length), (242, fns fs), (243, .int .i64 fs.length), (244, .int .i64 fi), (27, .ptr 2 0 0 1), (26, .int .i64 fi), (28, .ptr 4 0 0 1), (29, .sl H.length 0 f.Vars.length f.Vars.length), (261, .int .i64 f.Params), (262, .int .i64 (0))], [], H ++ [.cells 1 (bl a0)], ed⟩ : St) = some (AExit.exit 26, (⟨[(0, unit fs), (1, .ptr 0 0 0 1), (2, .ptr 1 0 0 1), (3, .int .i64 t), (49, fns fs), (50, .int .i64 fs.length), (51, .int .i64 fs.length), (78, .int .i64 fs.length), (79, .int .i64 fs.length), (90, fns fs), (91, .int .i64 fs.length), (92, .int .i64 fs.length), (113, fns fs), (114, .int .i64 fs.length), (115, .int .i64 fs.length), (186, fns fs), (187, .int .i64 fs.length), (188, .int .i64 fs.length), (242, fns fs), (243, .int .i64 fs.length), (244, .int .i64 fi), (27, .ptr 2 0 0 1), (26, .int .i64 fi), (28, .ptr 4 0 0 1), (29, .sl H.length 0 f.Vars.length f.Vars.length), (261, .int .i64 f.Params), (262, .int .i64 (f.Params))], [], H ++ [.cells 1 (bl (iter (fun (i : Int) (a : List Bool) => a.set i.toNat true) ((f.Params : Int) - 0).toNat (0) a0))], ed⟩ : St)) ∧ (iter (fun (i : Int) (a : List Bool) => a.set i.toNat true) ((f.Params : Int) - 0).toNat (0) a0).length = f.Vars.length := by
  refine loop_iter (fun i (a : List Bool) => (⟨[(0, unit fs), (1, .ptr 0 0 0 1), (2, .ptr 1 0 0 1), (3, .int .i64 t), (49, fns fs), (50, .int .i64 fs.length), (51, .int .i64 fs.length), (78, .int .i64 fs.length), (79, .int .i64 fs.length), (90, fns fs), (91, .int .i64 fs.length), (92, .int .i64 fs.length), (113, fns fs), (114, .int .i64 fs.length), (115, .int .i64 fs.length), (186, fns fs), (187, .int .i64 fs.length), (188, .int .i64 fs.length), (242, fns fs), (243, .int .i64 fs.length), (244, .int .i64 fi), (27, .ptr 2 0 0 1), (26, .int .i64 fi), (28, .ptr 4 0 0 1), (29, .sl H.length 0 f.Vars.length f.Vars.length), (261, .int .i64 f.Params), (262, .int .i64 i)], [], H ++ [.cells 1 (bl a)], ed⟩ : St)) (fun (i : Int) (a : List Bool) => a.set i.toNat true) (fun i (a : List Bool) => a.length = f.Vars.length) (fun a => (AExit.exit 26, (⟨[(0, unit fs), (1, .ptr 0 0 0 1), (2, .ptr 1 0 0 1), (3, .int .i64 t), (49, fns fs), (50, .int .i64 fs.length), (51, .int .i64 fs.length), (78, .int .i64 fs.length), (79, .int .i64 fs.length), (90, fns fs), (91, .int .i64 fs.length), (92, .int .i64 fs.length), (113, fns fs), (114, .int .i64 fs.length), (115, .int .i64 fs.length), (186, fns fs), (187, .int .i64 fs.length), (188, .int .i64 fs.length), (242, fns fs), (243, .int .i64 fs.length), (244, .int .i64 fi), (27, .ptr 2 0 0 1), (26, .int .i64 fi), (28, .ptr 4 0 0 1), (29, .sl H.length 0 f.Vars.length f.Vars.length), (261, .int .i64 f.Params), (262, .int .i64 (f.Params))], [], H ++ [.cells 1 (bl a)], ed⟩ : St))) (0) (f.Params) ?_ ?_ (0) a0 (by omega) (by omega) hok0
  · intro i a hi hn hok
    refine ⟨⟨_, by simp -implicitDefEqProofs +contextual (disch := omega) only [ub_zCU_13, rr_zCU, ↓XD, XU, ↓reduceIte, sevalprocAttr, bl, hn, hok]; rfl, by first | (simp [St.next, trim_all, hT]; done) | (simp [St.next, trim_all, hT]; omega) | (simp [St.next, trim, bare, refsL, refs, hT]; done)⟩, by simp; omega⟩
  · rintro i a hi rfl hok
    refine ⟨by simp -implicitDefEqProofs +contextual (disch := omega) only [ub_zCU_13, rr_zCU, ↓XD, XU, ↓reduceIte, sevalprocAttr, bl, Int.lt_irrefl, hok], by simp⟩
noncomputable abbrev gB (nf nu nv : Nat) (K : Int) (refs : List Int) (vis : Int → Prop) (j : Int) (s : Bool × List Bool) : Bool × List Bool :=
  if K = 27 then (decide (s.1 = true ∨ nth refs j < 0 ∨ (nu : Int) ≤ nth refs j), s.2)
  else if K = 36 then (decide (s.1 = true ∨ nth refs j < 0 ∨ (nf : Int) ≤ nth refs j), s.2)
  else if nth refs j < 0 ∨ (nv : Int) ≤ nth refs j then (true, s.2)
  else if K = 2 ∨ K = 7 ∨ K = 8 ∨ K = 12 then (decide (s.1 = true ∨ nth s.2 (nth refs j) = true), s.2.set (nth refs j).toNat true)
  else if K = 26 then (decide (s.1 = true ∨ ¬vis (nth refs j)), s.2)
  else s
theorem lookV_one {H : Heap} {id : Nat} {v : Int} {b : Bool} (z : PV) (h : H[id]? = some (.map [(.int .i64 v, .bool b)])) : lookV 0 z false H (.mp id) (.int .i64 v) = some (.bool b) := by
  have h1 : entriesOf H (.mp id) = some [(.int .i64 v, .bool b)] := by simp only [entriesOf, h]
  have h2 : findKey 0 (.int .i64 v) [(.int .i64 v, .bool b)] = some (some (.bool b)) := by simp [findKey, eqCell]
  simp only [lookV, h1, h2]; rfl
abbrev E14 (fs : List Fn) (f : Fn) (t fi : Int) (h : Nat) (n : Int) : Env := [(0, unit fs), (1, .ptr 0 0 0 1), (2, .ptr 1 0 0 1), (3, .int .i64 t), (49, fns fs), (50, .int .i64 fs.length), (51, .int .i64 fs.length), (78, .int .i64 fs.length), (79, .int .i64 fs.length), (90, fns fs), (91, .int .i64 fs.length), (92, .int .i64 fs.length), (113, fns fs), (114, .int .i64 fs.length), (115, .int .i64 fs.length), (186, fns fs), (187, .int .i64 fs.length), (188, .int .i64 fs.length), (242, fns fs), (243, .int .i64 fs.length), (244, .int .i64 fi), (27, .ptr 2 0 0 1), (26, .int .i64 fi), (28, .ptr 4 0 0 1), (29, .sl h 0 f.Vars.length f.Vars.length), (261, .int .i64 f.Params), (262, .int .i64 f.Params), (270, nodes f.Nodes), (271, .int .i64 f.Nodes.length), (272, .int .i64 n)]
abbrev E15 (fs : List Fn) (f : Fn) (t fi : Int) (h : Nat) (n : Int) (nd : Node) (bd : Bool) (j : Int) : Env := [(0, unit fs), (1, .ptr 0 0 0 1), (2, .ptr 1 0 0 1), (3, .int .i64 t), (49, fns fs), (50, .int .i64 fs.length), (51, .int .i64 fs.length), (78, .int .i64 fs.length), (79, .int .i64 fs.length), (90, fns fs), (91, .int .i64 fs.length), (92, .int .i64 fs.length), (113, fns fs), (114, .int .i64 fs.length), (115, .int .i64 fs.length), (186, fns fs), (187, .int .i64 fs.length), (188, .int .i64 fs.length), (242, fns fs), (243, .int .i64 fs.length), (244, .int .i64 fi), (27, .ptr 2 0 0 1), (26, .int .i64 fi), (28, .ptr 4 0 0 1), (29, .sl h 0 f.Vars.length f.Vars.length), (261, .int .i64 f.Params), (262, .int .i64 f.Params), (270, nodes f.Nodes), (271, .int .i64 f.Nodes.length), (272, .int .i64 n), (32, .ptr (h + 1) 0 0 1), (31, .int .i64 n), (33, .bool bd), (278, ints nd.Refs), (279, .int .i64 nd.Refs.length), (280, .int .i64 j)]
theorem li_15 (fs : List Fn) (f : Fn) (t fi n : Int) (nd : Node) (H : Heap) (ed : Edges) (vis : Int → Prop) (rows : List (List PV)) (hv : f.Vars.length ≤ 1048576) (hu : f.Ups.length ≤ 1048576) (hfs : fs.length ≤ 1048576) (hb : nd.Refs.length ≤ 1048576) (n0 : 0 ≤ n) (n1 : n < rows.length) (hT : ∀ (x y : Blk) roots, trim (H.length + 2) roots (H ++ [x, y]) ed = (H ++ [x, y], ed)) (q0 : ∀ l, (H ++ l)[0]? = some (.cells 1 [[fns fs]])) (q2 : ∀ l, (H ++ l)[2]? = some (.cells 7 [f.cells])) (q4 : ∀ l, (H ++ l)[4]? = some (.cells 1 [[.sl 3 0 rows.length rows.length]])) (q3 : ∀ l, (H ++ l)[3]? = some (.cells 1 rows)) (hK : nd.Kind = 26 → nd.Refs.length = 1 ∧ ∃ (id : Nat) (b : Bool), nth rows n = [.mp id] ∧ (∀ l, (H ++ l)[id]? = some (.map [(.int .i64 (nth nd.Refs 0), .bool b)])) ∧ (b = true ↔ 0 ≤ nth nd.Refs 0 ∧ nth nd.Refs 0 < f.Vars.length ∧ vis (nth nd.Refs 0))) (a0 : Bool × List Bool) (hok0 : a0.2.length = f.Vars.length) : OnSum (fun (a : Bool × List Bool) => EV A (.loop (B_zCU 15)) (⟨E15 fs f t fi H.length n nd a0.1 (0), [], H ++ [.cells 1 (bl a0.2), .cells 8 [nd.cells]], ed⟩ : St) = some (AExit.exit 30, (⟨E15 fs f t fi H.length n nd a.1 (nd.Refs.length), [], H ++ [.cells 1 (bl a.2), .cells 8 [nd.cells]], ed⟩ : St)) ∧ a.2.length = f.Vars.length) (fun (r : Empty) => ∃ st, EV A (.loop (B_zCU 15)) (⟨E15 fs f t fi H.length n nd a0.1 (0), [], H ++ [.cells 1 (bl a0.2), .cells 8 [nd.cells]], ed⟩ : St) = some (.ret, st) ∧ False) (iterx (fun (i : Int) (a : Bool × List Bool) => Sum.inl (gB fs.length f.Ups.length f.Vars.length nd.Kind nd.Refs vis i a)) ((nd.Refs.length : Int) - 0).toNat (0) a0) := by
  simp only [Fn.cells, nodes, strs, ups, fns] at q0 q2
  refine loop_iterq (P := A) (body := (B_zCU 15)) (fun i (a : Bool × List Bool) => (⟨E15 fs f t fi H.length n nd a.1 i, [], H ++ [.cells 1 (bl a.2), .cells 8 [nd.cells]], ed⟩ : St)) (fun (i : Int) (a : Bool × List Bool) => Sum.inl (gB fs.length f.Ups.length f.Vars.length nd.Kind nd.Refs vis i a)) (fun i (a : Bool × List Bool) => a.2.length = f.Vars.length) (fun a => (AExit.exit 30, (⟨E15 fs f t fi H.length n nd a.1 (nd.Refs.length), [], H ++ [.cells 1 (bl a.2), .cells 8 [nd.cells]], ed⟩ : St))) (fun (r : Empty) (st : St) => False) (0) (nd.Refs.length) ?_ ?_ (0) a0 (by omega) (by omega) hok0
  · intro i a hi hn hok
    obtain ⟨bd, dl⟩ := a
    dsimp only at hok ⊢
    by_cases k1 : nd.Kind = 27
    · simp only [gB, if_pos k1]
      refine ⟨⟨_, by (simp -implicitDefEqProofs +contextual (disch := omega) only [ub_zCU_15, rr_zCU, E15, bl, Fn.cells, Node.cells, unit, fns, nodes, strs, ups, ints, ei_declares, ↓XD, XU, ↓reduceIte, sevalprocAttr, hn, hok, k1, q0, q2, q3, q4]) <;> rfl, by simp [St.next, E15, bl, ints, hT, Bool.or_assoc, k1]⟩, hok⟩
    · by_cases k2 : nd.Kind = 36
      · simp only [gB, if_neg k1, if_pos k2]
        refine ⟨⟨_, by (simp -implicitDefEqProofs +contextual (disch := omega) only [ub_zCU_15, rr_zCU, E15, bl, Fn.cells, Node.cells, unit, fns, nodes, strs, ups, ints, ei_declares, ↓XD, XU, ↓reduceIte, sevalprocAttr, hn, hok, k2, q0, q2, q3, q4]) <;> rfl, by simp [St.next, E15, bl, ints, hT, Bool.or_assoc, k2]⟩, hok⟩
      · by_cases k3 : nth nd.Refs i < 0 ∨ (f.Vars.length : Int) ≤ nth nd.Refs i
        · simp only [gB, if_neg k1, if_neg k2, if_pos k3]
          refine ⟨⟨_, by (simp -implicitDefEqProofs +contextual (disch := omega) only [ub_zCU_15, rr_zCU, E15, bl, Fn.cells, Node.cells, unit, fns, nodes, strs, ups, ints, ei_declares, ↓XD, XU, ↓reduceIte, sevalprocAttr, hn, hok, k1, k2, k3, q0, q2, q3, q4]) <;> rfl, by simp [St.next, E15, bl, ints, hT, Bool.or_assoc]⟩, hok⟩
        · by_cases k4 : nd.Kind = 2 ∨ nd.Kind = 7 ∨ nd.Kind = 8 ∨ nd.Kind = 12
          · simp only [gB, if_neg k1, if_neg k2, if_neg k3, if_pos k4]
            have k3' := not_or.1 k3
            refine ⟨⟨_, by (simp -implicitDefEqProofs +contextual (disch := omega) only [ub_zCU_15, rr_zCU, E15, bl, Fn.cells, Node.cells, unit, fns, nodes, strs, ups, ints, ei_declares, ↓XD, XU, ↓reduceIte, sevalprocAttr, hn, hok, k1, k2, k3'.1, k3'.2, k4, q0, q2, q3, q4]) <;> rfl, by simp [St.next, E15, bl, ints, hT, Bool.or_assoc]⟩, by simpa using hok⟩
          · have k3' := not_or.1 k3
            by_cases k5 : nd.Kind = 26
            · simp only [gB, if_neg k1, if_neg k2, if_neg k3, if_neg k4, if_pos k5]
              obtain ⟨hr, id, b, hrow, hmap, hbv⟩ := hK k5
              have hi0 : i = 0 := by omega
              subst hi0
              have hb2 : b = decide (vis (nth nd.Refs 0)) := by
                rw [Bool.eq_iff_iff, decide_eq_true_eq, hbv]
                exact ⟨fun h => h.2.2, fun h => ⟨by omega, by omega, h⟩⟩
              have hlk := fun l => lookV_one (.bool false) (hmap l)
              subst hb2
              refine ⟨⟨_, by (simp -implicitDefEqProofs +contextual (disch := omega) only [ub_zCU_15, rr_zCU, E15, bl, Fn.cells, Node.cells, unit, fns, nodes, strs, ups, ints, ei_declares, ↓XD, XU, ↓reduceIte, sevalprocAttr, hn, hok, k5, k3'.1, k3'.2, q0, q2, q3, q4, n0, n1, hrow, hlk]) <;> rfl, by simp [St.next, E15, bl, ints, hT, Bool.or_assoc, k5]⟩, hok⟩
            · simp only [gB, if_neg k1, if_neg k2, if_neg k3, if_neg k4, if_neg k5]
              refine ⟨⟨_, by (simp -implicitDefEqProofs +contextual (disch := omega) only [ub_zCU_15, rr_zCU, E15, bl, Fn.cells, Node.cells, unit, fns, nodes, strs, ups, ints, ei_declares, ↓XD, XU, ↓reduceIte, sevalprocAttr, hn, hok, k1, k2, k3'.1, k3'.2, k4, k5, q0, q2, q3, q4]) <;> rfl, by simp [St.next, E15, bl, ints, hT, Bool.or_assoc]⟩, hok⟩
  · rintro i a hi rfl hok
    refine ⟨by simp -implicitDefEqProofs +contextual (disch := omega) only [ub_zCU_15, rr_zCU, ↓XD, XU, ↓reduceIte, sevalprocAttr, E15, Int.lt_irrefl, hok], by simp⟩
theorem iterx_inl {σ ρ : Type} (g : Int → σ → σ) : ∀ (m : Nat) (i : Int) (a : σ), iterx (ρ := ρ) (fun i a => .inl (g i a)) m i a = .inl (iter g m i a)
  | 0, _, _ => rfl
  | m + 1, i, a => by rw [iterx, iter]; exact iterx_inl g m (i + 1) (g i a)
theorem gB_true (nf nu nv : Nat) (K : Int) (refs : List Int) (vis : Int → Prop) : ∀ (m : Nat) (i : Int) (s : Bool × List Bool), s.1 = true → (iter (fun j s => gB nf nu nv K refs vis j s) m i s).1 = true
  | 0, _, _, h => h
  | m + 1, i, s, h => by
    rw [iter]
    refine gB_true nf nu nv K refs vis m (i + 1) _ ?_
    simp only [gB]
    repeat' split
    all_goals first | rfl | exact h | exact decide_eq_true (.inl h)
theorem gB_decl (nf nu nv : Nat) (K : Int) (refs : List Int) (vis : Int → Prop) (hK : K = 2 ∨ K = 7 ∨ K = 8 ∨ K = 12) : ∀ (m : Nat) (i : Int) (s : List Bool), match iterx (gRef nv refs) m i s with
    | .inl s' => iter (fun j s => gB nf nu nv K refs vis j s) m i (false, s) = (false, s')
    | .inr _ => (iter (fun j s => gB nf nu nv K refs vis j s) m i (false, s)).1 = true
  | 0, _, _ => rfl
  | m + 1, i, s => by
    have k1 : ¬K = 27 := by omega
    have k2 : ¬K = 36 := by omega
    rw [iterx, iter]
    by_cases h1 : nth refs i < 0 ∨ (nv : Int) ≤ nth refs i
    · have e1 : gRef nv refs i s = .inr () := by rw [gRef, if_pos h1]
      have e2 : gB nf nu nv K refs vis i (false, s) = (true, s) := by rw [gB, if_neg k1, if_neg k2, if_pos h1]
      simp only [e1, e2]
      exact gB_true _ _ _ _ _ _ _ _ _ rfl
    · by_cases h2 : nth s (nth refs i) = true
      · have e1 : gRef nv refs i s = .inr () := by rw [gRef, if_neg h1, if_pos h2]
        have e2 : gB nf nu nv K refs vis i (false, s) = (true, s.set (nth refs i).toNat true) := by rw [gB, if_neg k1, if_neg k2, if_neg h1, if_pos hK]; simp [h2]
        simp only [e1, e2]
        exact gB_true _ _ _ _ _ _ _ _ _ rfl
      · have e1 : gRef nv refs i s = .inl (s.set (nth refs i).toNat true) := by rw [gRef, if_neg h1, if_neg h2]
        have e2 : gB nf nu nv K refs vis i (false, s) = (false, s.set (nth refs i).toNat true) := by rw [gB, if_neg k1, if_neg k2, if_neg h1, if_pos hK]; simp [h2]
        simp only [e1, e2]
        exact gB_decl nf nu nv K refs vis hK m (i + 1) _
theorem shape_norefs {ns : List Node} {a : Int} (h : Shape ns a) (hk : ¬((nth ns a).Kind = 2 ∨ (nth ns a).Kind = 7 ∨ (nth ns a).Kind = 8 ∨ (nth ns a).Kind = 12)) (h2 : ¬(nth ns a).Kind = 26) (h3 : ¬(nth ns a).Kind = 27) (h4 : ¬(nth ns a).Kind = 36) : (nth ns a).Refs.length = 0 := by
  obtain ⟨_, _, h⟩ := h
  rcases h with ⟨_, _, _, h⟩ | ⟨_, _, h⟩
  · simp only [Stmt, Bare] at h
    omega
  · simp only [Expr, Bare] at h
    omega
theorem gB_refs (fs : List Fn) (f : Fn) (hf : FnT f) (n : Int) (n0 : 0 ≤ n) (n1 : n < f.Nodes.length) (s : List Bool) : match refsRes fs f (growP f.Nodes) n s with
    | some s' => iter (fun j s => gB fs.length f.Ups.length f.Vars.length (nth f.Nodes n).Kind (nth f.Nodes n).Refs (Visible f (growP f.Nodes) n) j s) (((nth f.Nodes n).Refs.length : Int) - 0).toNat 0 (false, s) = (false, s')
    | none => (iter (fun j s => gB fs.length f.Ups.length f.Vars.length (nth f.Nodes n).Kind (nth f.Nodes n).Refs (Visible f (growP f.Nodes) n) j s) (((nth f.Nodes n).Refs.length : Int) - 0).toNat 0 (false, s)).1 = true := by
  have hr := hf.hr n n0 n1
  rw [refsRes]
  by_cases k1 : (nth f.Nodes n).Kind = 27
  · rw [if_pos k1, hr (.inr (.inl k1))]
    have e : iter (fun j s => gB fs.length f.Ups.length f.Vars.length (nth f.Nodes n).Kind (nth f.Nodes n).Refs (Visible f (growP f.Nodes) n) j s) (((1 : Nat) : Int) - 0).toNat 0 (false, s) = (decide (false = true ∨ nth (nth f.Nodes n).Refs 0 < 0 ∨ (f.Ups.length : Int) ≤ nth (nth f.Nodes n).Refs 0), s) := by
      show gB _ _ _ _ _ _ _ _ = _
      rw [gB, if_pos k1]
    rw [e]
    by_cases h : 0 ≤ nth (nth f.Nodes n).Refs 0 ∧ nth (nth f.Nodes n).Refs 0 < f.Ups.length
    · rw [if_pos h]
      have : ¬(false = true ∨ nth (nth f.Nodes n).Refs 0 < 0 ∨ (f.Ups.length : Int) ≤ nth (nth f.Nodes n).Refs 0) := by simp; omega
      simp only [decide_eq_false this]
    · rw [if_neg h]
      exact decide_eq_true (by omega)
  · by_cases k2 : (nth f.Nodes n).Kind = 36
    · rw [if_neg k1, if_pos k2, hr (.inr (.inr k2))]
      have e : iter (fun j s => gB fs.length f.Ups.length f.Vars.length (nth f.Nodes n).Kind (nth f.Nodes n).Refs (Visible f (growP f.Nodes) n) j s) (((1 : Nat) : Int) - 0).toNat 0 (false, s) = (decide (false = true ∨ nth (nth f.Nodes n).Refs 0 < 0 ∨ (fs.length : Int) ≤ nth (nth f.Nodes n).Refs 0), s) := by
        show gB _ _ _ _ _ _ _ _ = _
        rw [gB, if_neg k1, if_pos k2]
      rw [e]
      by_cases h : 0 ≤ nth (nth f.Nodes n).Refs 0 ∧ nth (nth f.Nodes n).Refs 0 < fs.length
      · rw [if_pos h]
        have : ¬(false = true ∨ nth (nth f.Nodes n).Refs 0 < 0 ∨ (fs.length : Int) ≤ nth (nth f.Nodes n).Refs 0) := by simp; omega
        simp only [decide_eq_false this]
      · rw [if_neg h]
        exact decide_eq_true (by omega)
    · rw [if_neg k1, if_neg k2]
      by_cases k3 : (nth f.Nodes n).Kind = 26
      · rw [if_pos k3, hr (.inl k3)]
        by_cases h : nth (nth f.Nodes n).Refs 0 < 0 ∨ (f.Vars.length : Int) ≤ nth (nth f.Nodes n).Refs 0
        · have e : iter (fun j s => gB fs.length f.Ups.length f.Vars.length (nth f.Nodes n).Kind (nth f.Nodes n).Refs (Visible f (growP f.Nodes) n) j s) (((1 : Nat) : Int) - 0).toNat 0 (false, s) = (true, s) := by
            show gB _ _ _ _ _ _ _ _ = _
            rw [gB, if_neg k1, if_neg k2, if_pos h]
          rw [e, if_neg (fun hh => hh.1 h)]
        · have e : iter (fun j s => gB fs.length f.Ups.length f.Vars.length (nth f.Nodes n).Kind (nth f.Nodes n).Refs (Visible f (growP f.Nodes) n) j s) (((1 : Nat) : Int) - 0).toNat 0 (false, s) = (decide (false = true ∨ ¬Visible f (growP f.Nodes) n (nth (nth f.Nodes n).Refs 0)), s) := by
            show gB _ _ _ _ _ _ _ _ = _
            rw [gB, if_neg k1, if_neg k2, if_neg h, if_neg (by omega), if_pos k3]
          rw [e]
          by_cases hv : Visible f (growP f.Nodes) n (nth (nth f.Nodes n).Refs 0)
          · rw [if_pos ⟨h, hv⟩]
            simp [hv]
          · rw [if_neg (fun hh => hv hh.2)]
            simp [hv]
      · rw [if_neg k3]
        by_cases k4 : (nth f.Nodes n).Kind = 2 ∨ (nth f.Nodes n).Kind = 7 ∨ (nth f.Nodes n).Kind = 8 ∨ (nth f.Nodes n).Kind = 12
        · have := gB_decl fs.length f.Ups.length f.Vars.length (nth f.Nodes n).Kind (nth f.Nodes n).Refs (Visible f (growP f.Nodes) n) k4 (((nth f.Nodes n).Refs.length : Int) - 0).toNat 0 s
          cases hx : iterx (gRef f.Vars.length (nth f.Nodes n).Refs) (((nth f.Nodes n).Refs.length : Int) - 0).toNat 0 s with
          | inl s' => rw [hx] at this; exact this
          | inr u => rw [hx] at this; exact this
        · rw [shape_norefs (hf.hsh n n0 n1) k4 k3 k1 k2]
          rfl
theorem scopes1 (b0 b1 : Blk) (f : Fn) (hf : FnT f) : ∃ H' ed' rows, ES A n_impl_scopes [.agg f.cells, .fn n_zCU_S1 [.ptr 2 0 0 1, .ptr 4 0 0 1]] (h5 b0 b1 f (List.replicate f.Nodes.length [.nilm])) = some (.tup [], H', ed') ∧ H'[0]? = some b0 ∧ H'[1]? = some b1 ∧ H'[2]? = some (.cells 7 [f.cells]) ∧ H'[4]? = some (.cells 1 [[.sl 3 0 f.Nodes.length f.Nodes.length]]) ∧ Maps f 3 (fun m : Int => 0 ≤ m ∧ m < f.Nodes.length) H' rows ∧ 5 ≤ H'.length ∧ ∀ e ∈ ed', (e.1 = 3 ∧ 3 < e.2) ∧ e.2 < H'.length := by
  obtain ⟨H', ed', h1, ⟨rows, hm⟩, h2, h3, h4⟩ := es_scopes hf (h5 b0 b1 f (List.replicate f.Nodes.length [.nilm])) (cid := 3) (by simp [h5]) (See1 f hf 5 2 3 4 (by decide) (by decide) (by decide) (by decide) (by decide)) ⟨rfl, rfl⟩ ⟨List.replicate f.Nodes.length [.nilm], ⟨rfl, by simp, fun m m0 m1 => .inl ⟨nth_rep m0 m1, fun h => h.1⟩⟩⟩
  exact ⟨H', ed', rows, h1, h2 0 (by simp [h5]) (by decide), h2 1 (by simp [h5]) (by decide), h2 2 (by simp [h5]) (by decide), h2 4 (by simp [h5]) (by decide), hm, h3, h4⟩
theorem li_14 (fs : List Fn) (f : Fn) (t fi : Int) (H : Heap) (ed : Edges) (rows : List (List PV)) (hf : FnT f) (hfs : fs.length ≤ 1048576) (hE : ∀ e ∈ ed, e.2 < H.length) (h5 : 5 ≤ H.length) (p0 : H[0]? = some (.cells 1 [[fns fs]])) (p1 : H[1]? = some (.cells 3 [[.int .i64 0, .int .i64 0, .int .i64 0]])) (p2 : H[2]? = some (.cells 7 [f.cells])) (p4 : H[4]? = some (.cells 1 [[.sl 3 0 f.Nodes.length f.Nodes.length]])) (hM : Maps f 3 (fun m : Int => 0 ≤ m ∧ m < f.Nodes.length) H rows) (a0 : List Bool) (hok0 : a0.length = f.Vars.length) : OnSum (fun (a : List Bool) => EV A (.loop (B_zCU 14)) (⟨E14 fs f t fi H.length (0), [], H ++ [.cells 1 (bl a0)], ed⟩ : St) = some (AExit.exit 28, (⟨E14 fs f t fi H.length (f.Nodes.length), [], H ++ [.cells 1 (bl a)], ed⟩ : St)) ∧ a.length = f.Vars.length) (fun (r : Int) => ∃ st, EV A (.loop (B_zCU 14)) (⟨E14 fs f t fi H.length (0), [], H ++ [.cells 1 (bl a0)], ed⟩ : St) = some (.ret, st) ∧ ResAt 2 1 3 (flt3 6 fi r) st) (iterx (fun (i : Int) (a : List Bool) => gRefs fs f i a) ((f.Nodes.length : Int) - 0).toNat (0) a0) := by
  have hb := hf.hg.hb
  refine loop_iterq (P := A) (body := (B_zCU 14)) (fun i (a : List Bool) => (⟨E14 fs f t fi H.length i, [], H ++ [.cells 1 (bl a)], ed⟩ : St)) (fun (i : Int) (a : List Bool) => gRefs fs f i a) (fun i (a : List Bool) => a.length = f.Vars.length) (fun a => (AExit.exit 28, (⟨E14 fs f t fi H.length (f.Nodes.length), [], H ++ [.cells 1 (bl a)], ed⟩ : St))) (fun (r : Int) (st : St) => ResAt 2 1 3 (flt3 6 fi r) st) (0) (f.Nodes.length) ?_ ?_ (0) a0 (by omega) (by omega) hok0
  · intro i a hi hn hok
    have hsz := hf.hg.hsz i
    have q0 : ∀ l, (H ++ l)[0]? = some (.cells 1 [[fns fs]]) := fun l => app_old _ _ p0
    have q1 : ∀ l, (H ++ l)[1]? = some (.cells 3 [[.int .i64 0, .int .i64 0, .int .i64 0]]) := fun l => app_old _ _ p1
    have q2 : ∀ l, (H ++ l)[2]? = some (.cells 7 [f.cells]) := fun l => app_old _ _ p2
    have q4 : ∀ l, (H ++ l)[4]? = some (.cells 1 [[.sl 3 0 rows.length rows.length]]) := fun l => by rw [hM.len]; exact app_old _ _ p4
    have q3 : ∀ l, (H ++ l)[3]? = some (.cells 1 rows) := fun l => app_old _ _ hM.blk
    have hT2 : ∀ (x y : Blk) roots, trim (H.length + 2) roots (H ++ [x, y]) ed = (H ++ [x, y], ed) := fun x y roots => by
      have := trim_id (H := H ++ [x, y]) (ed := ed) (fun e h => by have := hE e h; simp; omega) roots
      simpa using this
    have hT1 : ∀ (x y : Blk) roots, bare (H.length + 1) (refsL roots) = true → trim (H.length + 1) roots (H ++ [x, y]) ed = (H ++ [x], ed) := fun x y roots hbr => by
      have := trim_app (H := H ++ [x]) (l := [y]) (ed := ed) hbr (by simp) (fun e h => by have := hE e h; omega)
      simpa using this
    have h15 := li_15 fs f t fi i (nth f.Nodes i) H ed (Visible f (growP f.Nodes) i) rows hf.hv hf.hu hfs hsz.1 hi (by rw [hM.len]; exact hn) hT2 q0 q2 q4 q3 (fun hk => ⟨hf.hr i hi hn (.inl hk), by
      rcases hM.row i hi hn with ⟨_, h⟩ | ⟨id, b, h1, h2, h3⟩
      · exact absurd ⟨⟨hi, hn⟩, hk⟩ h
      · exact ⟨id, b, h1, fun l => app_old _ _ h2, h3⟩⟩) (false, a) hok
    rw [iterx_inl] at h15
    have hg := gB_refs fs f hf i hi hn a
    rw [gRefs]
    cases hr : refsRes fs f (growP f.Nodes) i a with
    | some s' =>
      rw [hr] at hg
      simp only at hg
      rw [hg] at h15
      obtain ⟨h15, hs'⟩ := h15
      simp only [E15, unit, fns, Fn.cells, Node.cells, nodes, strs, ups, ints, bl] at h15
      have d1 : 2 < H.length + 1 := by omega
      have d2 : 4 < H.length + 1 := by omega
      have d3 : 0 < H.length := by omega
      have d4 : H ≠ [] := List.ne_nil_of_length_pos d3
      refine ⟨⟨_, by (simp -implicitDefEqProofs +contextual (disch := omega) only [ub_zCU_14, rr_zCU, E14, bl, unit, fns, Fn.cells, Node.cells, nodes, strs, ups, ints, ↓XD, XU, ↓reduceIte, sevalprocAttr, hn, hok, h15]) <;> rfl, by simp [St.next, E14, bl, bare, refsL, refs, hT1, d1, d2, d3, d4]⟩, hs'⟩
    | none =>
      rw [hr] at hg
      simp only at hg
      generalize iter (fun j s => gB fs.length f.Ups.length f.Vars.length (nth f.Nodes i).Kind (nth f.Nodes i).Refs (Visible f (growP f.Nodes) i) j s) (((nth f.Nodes i).Refs.length : Int) - 0).toNat 0 (false, a) = r at h15 hg
      obtain ⟨b, l⟩ := r
      simp only at hg
      subst hg
      obtain ⟨h15, hs'⟩ := h15
      simp only [E15, unit, fns, Fn.cells, Node.cells, nodes, strs, ups, ints, bl] at h15
      refine ⟨_, by (simp -implicitDefEqProofs +contextual (disch := omega) only [ub_zCU_14, rr_zCU, E14, bl, unit, fns, Fn.cells, Node.cells, nodes, strs, ups, ints, ↓XD, XU, ↓reduceIte, sevalprocAttr, hn, hok, h15, q1]) <;> rfl, by simp [ResAt, Env.get, Env.put, List.getElem?_set_self, show 1 < H.length + 2 by omega]⟩
  · rintro i a hi rfl hok
    refine ⟨by simp -implicitDefEqProofs +contextual (disch := omega) only [ub_zCU_14, rr_zCU, ↓XD, XU, ↓reduceIte, sevalprocAttr, E14, Int.lt_irrefl, hok], by simp⟩
theorem li_12 (fs : List Fn) (t : Int) (hb : fs.length ≤ 1048576) (hF : ∀ f : Int, 0 ≤ f → f < fs.length → FnT (nth fs f)) : match seek (fun (j : Int) => badRef fs j ≠ none) 0 fs.length with | some j => ∃ st, EV A (.loop (B_zCU 12)) (⟨[(0, unit fs), (1, .ptr 0 0 0 1), (2, .ptr 1 0 0 1), (3, .int .i64 t), (49, fns fs), (50, .int .i64 fs.length), (51, .int .i64 fs.length), (78, .int .i64 fs.length), (79, .int .i64 fs.length), (90, fns fs), (91, .int .i64 fs.length), (92, .int .i64 fs.length), (113, fns fs), (114, .int .i64 fs.length), (115, .int .i64 fs.length), (186, fns fs), (187, .int .i64 fs.length), (188, .int .i64 fs.length), (242, fns fs), (243, .int .i64 fs.length), (244, .int .i64 (0))], [], hU fs, []⟩ : St) = some (.ret, st) ∧ ResAt 2 1 3 (flt3 6 j ((badRef fs j).getD 0)) st | none => EV A (.loop (B_zCU 12)) (⟨[(0, unit fs), (1, .ptr 0 0 0 1), (2, .ptr 1 0 0 1), (3, .int .i64 t), (49, fns fs), (50, .int .i64 fs.length), (51, .int .i64 fs.length), (78, .int .i64 fs.length), (79, .int .i64 fs.length), (90, fns fs), (91, .int .i64 fs.length), (92, .int .i64 fs.length), (113, fns fs), (114, .int .i64 fs.length), (115, .int .i64 fs.length), (186, fns fs), (187, .int .i64 fs.length), (188, .int .i64 fs.length), (242, fns fs), (243, .int .i64 fs.length), (244, .int .i64 (0))], [], hU fs, []⟩ : St) = some (AExit.exit 24, (⟨[(0, unit fs), (1, .ptr 0 0 0 1), (2, .ptr 1 0 0 1), (3, .int .i64 t), (49, fns fs), (50, .int .i64 fs.length), (51, .int .i64 fs.length), (78, .int .i64 fs.length), (79, .int .i64 fs.length), (90, fns fs), (91, .int .i64 fs.length), (92, .int .i64 fs.length), (113, fns fs), (114, .int .i64 fs.length), (115, .int .i64 fs.length), (186, fns fs), (187, .int .i64 fs.length), (188, .int .i64 fs.length), (242, fns fs), (243, .int .i64 fs.length), (244, .int .i64 (fs.length))], [], hU fs, []⟩ : St)) := by
  refine loop_seek (fun i => (⟨[(0, unit fs), (1, .ptr 0 0 0 1), (2, .ptr 1 0 0 1), (3, .int .i64 t), (49, fns fs), (50, .int .i64 fs.length), (51, .int .i64 fs.length), (78, .int .i64 fs.length), (79, .int .i64 fs.length), (90, fns fs), (91, .int .i64 fs.length), (92, .int .i64 fs.length), (113, fns fs), (114, .int .i64 fs.length), (115, .int .i64 fs.length), (186, fns fs), (187, .int .i64 fs.length), (188, .int .i64 fs.length), (242, fns fs), (243, .int .i64 fs.length), (244, .int .i64 i)], [], hU fs, []⟩ : St)) (fun (j : Int) => badRef fs j ≠ none) (fun (j : Int) (st : St) => ResAt 2 1 3 (flt3 6 j ((badRef fs j).getD 0)) st) (AExit.exit 24, (⟨[(0, unit fs), (1, .ptr 0 0 0 1), (2, .ptr 1 0 0 1), (3, .int .i64 t), (49, fns fs), (50, .int .i64 fs.length), (51, .int .i64 fs.length), (78, .int .i64 fs.length), (79, .int .i64 fs.length), (90, fns fs), (91, .int .i64 fs.length), (92, .int .i64 fs.length), (113, fns fs), (114, .int .i64 fs.length), (115, .int .i64 fs.length), (186, fns fs), (187, .int .i64 fs.length), (188, .int .i64 fs.length), (242, fns fs), (243, .int .i64 fs.length), (244, .int .i64 (fs.length))], [], hU fs, []⟩ : St)) (0) (fs.length) ?_ ?_ ?_ (0) (by omega) (by omega)
  · intro i hi hn hp
    have hf := hF i hi hn; have hg1 := hf.hg.hb; have hg2 := hf.hv; obtain ⟨H', ed', rows, he, q0, q1, q2, q4, hM, hlen, hed⟩ := scopes1 (.cells 1 [[fns fs]]) (.cells 3 [[.int .i64 0, .int .i64 0, .int .i64 0]]) (nth fs i) hf; have hT1 : ∀ (x : Blk) roots, trim (H'.length + 1) roots (H' ++ [x]) ed' = (H' ++ [x], ed') := (fun x roots => by have := trim_id (H := H' ++ [x]) (ed := ed') (fun e h => by have := (hed e h).2; simp; omega) roots; simpa using this); have h13 := li_13 fs (nth fs i) t i H' ed' hf.hv hf.hp0 hf.hp hT1 (List.replicate (nth fs i).Vars.length false) (by simp); have hS : seen0 (nth fs i) = iter (fun i a => a.set i.toNat true) ((nth fs i).Params - 0).toNat 0 (List.replicate (nth fs i).Vars.length false) := rfl; rw [← hS] at h13; have h14 := li_14 fs (nth fs i) t i H' ed' rows hf hb (fun e h => (hed e h).2) hlen q0 q1 q2 q4 hM (seen0 (nth fs i)) h13.2; have h13 := h13.1; have hR : refsRun fs (nth fs i) = iterx (fun (n : Int) (a : List Bool) => gRefs fs (nth fs i) n a) (((nth fs i).Nodes.length : Int) - 0).toNat 0 (seen0 (nth fs i)) := rfl; rw [← hR] at h14; simp only [h5, bl, fns, Fn.cells, nodes, strs, ups] at he; simp only [unit, fns, Fn.cells, nodes, strs, ups, bl] at h13 q2 q4; have q2' := fun l => app_old H' l q2
    cases hr : refsRun fs (nth fs i) with
    | inr n => exact absurd (by simp [badRef, hr]) hp
    | inl s' =>
      rw [hr] at h14
      obtain ⟨h14, _⟩ := h14
      simp only [E14, unit, fns, Fn.cells, nodes, strs, ups, bl] at h14
      refine ⟨_, by (simp -implicitDefEqProofs +contextual (disch := omega) only [ub_zCU_12, rr_zCU, hU, unit, fns, Fn.cells, nodes, strs, ups, bl, ↓XD, XU, ↓reduceIte, sevalprocAttr, hn, he, q2, q2', q4, h13, h14]) <;> rfl, ?_⟩
      refine (next_cut (c := 3) ?_ (fun e h => (hed e h).1) ?_).trans ?_
      · exact (show (2 : Nat) ≤ 3 by decide)
      · simp [bare, refsL, refs]
      · show (⟨_, [], List.take 2 (H' ++ [_]), []⟩ : St) = _
        rw [take_two (app_old _ _ q0) (app_old _ _ q1)]; rfl
  · intro i hi hn hp
    have hf := hF i hi hn; have hg1 := hf.hg.hb; have hg2 := hf.hv; obtain ⟨H', ed', rows, he, q0, q1, q2, q4, hM, hlen, hed⟩ := scopes1 (.cells 1 [[fns fs]]) (.cells 3 [[.int .i64 0, .int .i64 0, .int .i64 0]]) (nth fs i) hf; have hT1 : ∀ (x : Blk) roots, trim (H'.length + 1) roots (H' ++ [x]) ed' = (H' ++ [x], ed') := (fun x roots => by have := trim_id (H := H' ++ [x]) (ed := ed') (fun e h => by have := (hed e h).2; simp; omega) roots; simpa using this); have h13 := li_13 fs (nth fs i) t i H' ed' hf.hv hf.hp0 hf.hp hT1 (List.replicate (nth fs i).Vars.length false) (by simp); have hS : seen0 (nth fs i) = iter (fun i a => a.set i.toNat true) ((nth fs i).Params - 0).toNat 0 (List.replicate (nth fs i).Vars.length false) := rfl; rw [← hS] at h13; have h14 := li_14 fs (nth fs i) t i H' ed' rows hf hb (fun e h => (hed e h).2) hlen q0 q1 q2 q4 hM (seen0 (nth fs i)) h13.2; have h13 := h13.1; have hR : refsRun fs (nth fs i) = iterx (fun (n : Int) (a : List Bool) => gRefs fs (nth fs i) n a) (((nth fs i).Nodes.length : Int) - 0).toNat 0 (seen0 (nth fs i)) := rfl; rw [← hR] at h14; simp only [h5, bl, fns, Fn.cells, nodes, strs, ups] at he; simp only [unit, fns, Fn.cells, nodes, strs, ups, bl] at h13 q2 q4; have q2' := fun l => app_old H' l q2
    cases hr : refsRun fs (nth fs i) with
    | inl s' => exact absurd (by simp [badRef, hr]) hp
    | inr n =>
      rw [hr] at h14
      obtain ⟨st, h14, hg⟩ := h14
      simp only [E14, unit, fns, Fn.cells, nodes, strs, ups, bl] at h14
      refine ⟨_, by (simp -implicitDefEqProofs +contextual (disch := omega) only [ub_zCU_12, rr_zCU, hU, unit, fns, Fn.cells, nodes, strs, ups, bl, ↓XD, XU, ↓reduceIte, sevalprocAttr, hn, he, q2, q2', q4, h13, h14]) <;> rfl, by simpa [badRef, hr] using hg⟩
  · rintro i hi rfl
    refine ⟨by simp -implicitDefEqProofs +contextual (disch := omega) only [ub_zCU_12, rr_zCU, ↓XD, XU, ↓reduceIte, sevalprocAttr, hU, unit, fns, Fn.cells, nodes, strs, ups, Int.lt_irrefl], by simp⟩
abbrev E18 (fs : List Fn) (t n : Int) : Env := [(0, unit fs), (1, .ptr 0 0 0 1), (2, .ptr 1 0 0 1), (3, .int .i64 t), (49, fns fs), (50, .int .i64 fs.length), (51, .int .i64 fs.length), (78, .int .i64 fs.length), (79, .int .i64 fs.length), (90, fns fs), (91, .int .i64 fs.length), (92, .int .i64 fs.length), (113, fns fs), (114, .int .i64 fs.length), (115, .int .i64 fs.length), (186, fns fs), (187, .int .i64 fs.length), (188, .int .i64 fs.length), (242, fns fs), (243, .int .i64 fs.length), (244, .int .i64 fs.length), (362, fns fs), (363, .int .i64 fs.length), (364, .int .i64 fs.length), (40, .sl 2 0 fs.length fs.length), (395, fns fs), (396, .int .i64 fs.length), (397, .int .i64 n)]
abbrev E19 (fs : List Fn) (f : Fn) (t fi n : Int) : Env := [(0, unit fs), (1, .ptr 0 0 0 1), (2, .ptr 1 0 0 1), (3, .int .i64 t), (49, fns fs), (50, .int .i64 fs.length), (51, .int .i64 fs.length), (78, .int .i64 fs.length), (79, .int .i64 fs.length), (90, fns fs), (91, .int .i64 fs.length), (92, .int .i64 fs.length), (113, fns fs), (114, .int .i64 fs.length), (115, .int .i64 fs.length), (186, fns fs), (187, .int .i64 fs.length), (188, .int .i64 fs.length), (242, fns fs), (243, .int .i64 fs.length), (244, .int .i64 fs.length), (362, fns fs), (363, .int .i64 fs.length), (364, .int .i64 fs.length), (40, .sl 2 0 fs.length fs.length), (395, fns fs), (396, .int .i64 fs.length), (397, .int .i64 fi), (42, .ptr 3 0 0 1), (41, .int .i64 fi), (43, .ptr 5 0 0 1), (410, nodes f.Nodes), (411, .int .i64 f.Nodes.length), (412, .int .i64 n)]
theorem li_19 (fs : List Fn) (fi : Int) (t : Int) (K : List Bool → Heap) (h : Nat) (ed : Edges) (out : List Bool) (f0 : 0 ≤ fi) (f1 : fi < fs.length) (hb : fs.length ≤ 1048576) (hf : FnT (nth fs fi)) (hg : ∀ n : Int, 0 ≤ n → n < (nth fs fi).Nodes.length → (nth (nth fs fi).Nodes n).Kind = 36 → 0 ≤ nth (nth (nth fs fi).Nodes n).Refs 0 ∧ nth (nth (nth fs fi).Nodes n).Refs 0 < fs.length) (hl : out.length = (nth fs fi).Nodes.length) (ho : ∀ m : Int, 0 ≤ m → m < (nth fs fi).Nodes.length → (nth out m = true ↔ Bad8 fs fi m)) (hE : ∀ e ∈ ed, e.2 < h) (h6 : 6 ≤ h) (hk : ∀ a, (K a).length = h) (q1 : ∀ a l, (K a ++ l)[1]? = some (.cells 3 [[.int .i64 0, .int .i64 0, .int .i64 0]])) (q2 : ∀ a l, (K a ++ l)[2]? = some (.cells 1 (bl a))) (q4 : ∀ a l, (K a ++ l)[4]? = some (.cells 1 (bl out))) (q5 : ∀ a l, (K a ++ l)[5]? = some (.cells 1 [[.sl 4 0 (nth fs fi).Nodes.length (nth fs fi).Nodes.length]])) (q6 : ∀ a x l, (K a ++ x :: l)[h]? = some x) (q7 : ∀ a x y, (K a ++ [x]).set h y = K a ++ [y]) (s2 : ∀ a a' l, (K a ++ l).set 2 (.cells 1 (bl a')) = K a' ++ l) (a0 : List Bool) (hok0 : a0.length = fs.length) : OnSum (fun (a : List Bool) => EV A (.loop (B_zCU 19)) (⟨E19 fs (nth fs fi) t fi (0), [], K a0, ed⟩ : St) = some (AExit.exit 39, (⟨E19 fs (nth fs fi) t fi ((nth fs fi).Nodes.length), [], K a, ed⟩ : St)) ∧ a.length = fs.length) (fun (r : Int) => ∃ st, EV A (.loop (B_zCU 19)) (⟨E19 fs (nth fs fi) t fi (0), [], K a0, ed⟩ : St) = some (.ret, st) ∧ ResAt 2 1 3 (flt3 8 fi r) st) (iterx (fun (i : Int) (a : List Bool) => gMade fs fi i a) (((nth fs fi).Nodes.length : Int) - 0).toNat (0) a0) := by
  have hb2 := hf.hg.hb
  refine loop_iterq (P := A) (body := (B_zCU 19)) (fun i (a : List Bool) => (⟨E19 fs (nth fs fi) t fi i, [], K a, ed⟩ : St)) (fun (i : Int) (a : List Bool) => gMade fs fi i a) (fun i (a : List Bool) => a.length = fs.length) (fun a => (AExit.exit 39, (⟨E19 fs (nth fs fi) t fi ((nth fs fi).Nodes.length), [], K a, ed⟩ : St))) (fun (r : Int) (st : St) => ResAt 2 1 3 (flt3 8 fi r) st) (0) ((nth fs fi).Nodes.length) ?_ ?_ (0) a0 (by omega) (by omega) hok0
  · intro i a hi hn hok
    have hrl := hf.hr i hi hn
    have hsz := hf.hg.hsz i
    have s4 : ∀ a l, nth out i = false → (K a ++ l).set 4 (.cells 1 ((out.set i.toNat false).map fun b => [PV.bool b])) = K a ++ l := fun a l h0 => by
      have : out.set i.toNat false = out := by rw [← h0]; exact set_nth_same hi (by rw [hl]; exact hn)
      rw [this]; exact set_same (q4 a l)
    have hT : ∀ a (x : Blk) roots, bare h (refsL roots) = true → trim h roots (K a ++ [x]) ed = (K a, ed) := fun a x roots hbr => trim_app hbr (hk a) hE
    have d1 : 0 < h := by omega
    have d2 : 1 < h := by omega
    have d3 : 2 < h := by omega
    have d4 : 3 < h := by omega
    have d5 : 5 < h := by omega
    have c1 : ∀ a l b c, (((K a ++ l).set 4 b).set 2 c)[5]? = some (.cells 1 [[.sl 4 0 (nth fs fi).Nodes.length (nth fs fi).Nodes.length]]) := fun a l b c => by rw [List.getElem?_set_ne (by decide), List.getElem?_set_ne (by decide), q5]
    have c2 : ∀ a l b c, (((K a ++ l).set 4 b).set 2 c)[4]? = some b := fun a l b c => by rw [List.getElem?_set_ne (by decide), List.getElem?_set_self (by rw [List.length_append, hk]; omega)]
    have c3 : ∀ a l b c, (((K a ++ l).set 4 b).set 2 c)[1]? = some (.cells 3 [[.int .i64 0, .int .i64 0, .int .i64 0]]) := fun a l b c => by rw [List.getElem?_set_ne (by decide), List.getElem?_set_ne (by decide), q1]
    have c4 : ∀ a l b, ((K a ++ l).set 4 b)[2]? = some (.cells 1 (bl a)) := fun a l b => by rw [List.getElem?_set_ne (by decide), q2]
    have c5 : ∀ a l b c d, ((((K a ++ l).set 4 b).set 2 c).set 1 d)[1]? = some d := fun a l b c d => List.getElem?_set_self (by simp only [List.length_set, List.length_append, hk]; omega)
    have c6 : ∀ a l d, ((K a ++ l).set 1 d)[1]? = some d := fun a l d => List.getElem?_set_self (by simp only [List.length_append, hk]; omega)
    have hlo : (out.set i.toNat true).length = (nth fs fi).Nodes.length := by rw [List.length_set]; exact hl
    have hns : nth (out.set i.toNat true) i = true := by rw [nth_set hi (by rw [hl]; exact hn) hi, if_pos rfl]
    by_cases h36 : (nth (nth fs fi).Nodes i).Kind = 36
    · have hg1 := hg i hi hn h36
      have hr1 := hrl (.inr (.inr h36))
      have h37 : ¬((nth (nth fs fi).Nodes i).Kind = 37 ∧ ¬(nth fs fi).Rest = true) := by omega
      by_cases h1 : nth out i = true
      · have e : gMade fs fi i a = .inr i := by
          rw [gMade, if_neg h37, if_pos h36, if_pos]
          rcases (ho i hi hn).1 h1 with h | h
          · omega
          · exact .inr h.2
        rw [e]
        refine ⟨_, by (simp -implicitDefEqProofs +contextual (disch := omega) only [ub_zCU_19, rr_zCU, E19, bl, unit, fns, Fn.cells, Node.cells, nodes, strs, ups, ints, ↓XD, XU, ↓reduceIte, sevalprocAttr, hn, hok, hl, hk, q1, q2, q4, q5, q6, q7, h36, hg1, hr1, h1, c1, c2, c3, c4, hns]) <;> rfl, by simp [ResAt, Env.get, Env.put, c5]⟩
      · have h1 : nth out i = false := by simpa using h1
        by_cases h2 : nth (nth (nth fs fi).Nodes i).Refs 0 ≤ fi
        · have e : gMade fs fi i a = .inr i := by
            rw [gMade, if_neg h37, if_pos h36, if_pos (.inl (.inl h2))]
          rw [e]
          refine ⟨_, by (simp -implicitDefEqProofs +contextual (disch := omega) only [ub_zCU_19, rr_zCU, E19, bl, unit, fns, Fn.cells, Node.cells, nodes, strs, ups, ints, ↓XD, XU, ↓reduceIte, sevalprocAttr, hn, hok, hl, hk, q1, q2, q4, q5, q6, q7, h36, hg1, hr1, h1, h2, c1, c2, c3, c4, hns]) <;> rfl, by simp [ResAt, Env.get, Env.put, c5]⟩
        · by_cases h3 : nth a (nth (nth (nth fs fi).Nodes i).Refs 0) = true
          · have e : gMade fs fi i a = .inr i := by
              rw [gMade, if_neg h37, if_pos h36, if_pos (.inl (.inr h3))]
            rw [e]
            refine ⟨_, by (simp -implicitDefEqProofs +contextual (disch := omega) only [ub_zCU_19, rr_zCU, E19, bl, unit, fns, Fn.cells, Node.cells, nodes, strs, ups, ints, ↓XD, XU, ↓reduceIte, sevalprocAttr, hn, hok, hl, hk, q1, q2, q4, q5, q6, q7, h36, hg1, hr1, h1, h2, h3, c1, c2, c3, c4, hns]) <;> rfl, by simp [ResAt, Env.get, Env.put, c5]⟩
          · have e : gMade fs fi i a = .inl (a.set (nth (nth (nth fs fi).Nodes i).Refs 0).toNat true) := by
              rw [gMade, if_neg h37, if_pos h36, if_neg]
              rintro ((h | h) | h)
              · exact h2 h
              · exact h3 h
              · have := (ho i hi hn).2 (.inr ⟨h36, h⟩); rw [h1] at this; cases this
            rw [e]
            have h3 : nth a (nth (nth (nth fs fi).Nodes i).Refs 0) = false := by simpa using h3
            have s4' := fun a l => s4 a l h1
            refine ⟨⟨_, by (simp -implicitDefEqProofs +contextual (disch := omega) only [ub_zCU_19, rr_zCU, E19, bl, unit, fns, Fn.cells, Node.cells, nodes, strs, ups, ints, ↓XD, XU, ↓reduceIte, sevalprocAttr, hn, hok, hl, hk, q1, q2, q4, q5, q6, q7, h36, hg1, hr1, h1, h2, h3, s4', s2]) <;> rfl, by simp [St.next, E19, bare, refsL, refs, hT, hk, d1, d2, d3, d4, d5]⟩, by simpa using hok⟩
    · by_cases h1 : nth out i = true
      · have e : gMade fs fi i a = .inr i := by
          rw [gMade, if_pos]
          rcases (ho i hi hn).1 h1 with h | h
          · exact h
          · exact absurd h.1 h36
        rw [e]
        refine ⟨_, by (simp -implicitDefEqProofs +contextual (disch := omega) only [ub_zCU_19, rr_zCU, E19, bl, unit, fns, Fn.cells, Node.cells, nodes, strs, ups, ints, ↓XD, XU, ↓reduceIte, sevalprocAttr, hn, hok, hl, hk, q1, q2, q4, q5, q6, q7, h36, h1]) <;> rfl, by simp [ResAt, Env.get, Env.put, c6]⟩
      · have e : gMade fs fi i a = .inl a := by
          rw [gMade, if_neg (fun h => h1 ((ho i hi hn).2 (.inl h))), if_neg h36]
        rw [e]
        have h1 : nth out i = false := by simpa using h1
        refine ⟨⟨_, by (simp -implicitDefEqProofs +contextual (disch := omega) only [ub_zCU_19, rr_zCU, E19, bl, unit, fns, Fn.cells, Node.cells, nodes, strs, ups, ints, ↓XD, XU, ↓reduceIte, sevalprocAttr, hn, hok, hl, hk, q1, q2, q4, q5, q6, q7, h36, h1]) <;> rfl, by simp [St.next, E19, bare, refsL, refs, hT, hk, d1, d2, d3, d4, d5]⟩, hok⟩
  · rintro i a hi rfl hok
    refine ⟨by simp -implicitDefEqProofs +contextual (disch := omega) only [ub_zCU_19, rr_zCU, ↓XD, XU, ↓reduceIte, sevalprocAttr, E19, Int.lt_irrefl, hok], by simp⟩
theorem take_three {H : Heap} {a b c : Blk} (h0 : H[0]? = some a) (h1 : H[1]? = some b) (h2 : H[2]? = some c) : H.take 3 = [a, b, c] := by
  match H with
  | [] => cases h0
  | [x] => cases h1
  | [x, y] => cases h2
  | x :: y :: z :: H => cases h0; cases h1; cases h2; rfl
abbrev h6 (fs : List Fn) (b1 b2 : Blk) (f : Fn) (rows : List (List PV)) : Heap := [.cells 1 [[fns fs]], b1, b2, .cells 7 [f.cells], .cells 1 rows, .cells 1 [[.sl 4 0 f.Nodes.length f.Nodes.length]]]
theorem scopes3 (fs : List Fn) (fi : Int) (b1 b2 : Blk) (hf : FnT (nth fs fi)) (hu : ∀ k : Int, 0 ≤ k → k < fs.length → (nth fs k).Ups.length ≤ 1048576) (hg : ∀ n : Int, 0 ≤ n → n < (nth fs fi).Nodes.length → (nth (nth fs fi).Nodes n).Kind = 36 → 0 ≤ nth (nth (nth fs fi).Nodes n).Refs 0 ∧ nth (nth (nth fs fi).Nodes n).Refs 0 < fs.length) : ∃ H' ed' out, ES A n_impl_scopes [.agg (nth fs fi).cells, .fn n_zCU_S3 [.ptr 3 0 0 1, .ptr 5 0 0 1, .ptr 0 0 0 1]] (h6 fs b1 b2 (nth fs fi) (bl (List.replicate (nth fs fi).Nodes.length false))) = some (.tup [], H', ed') ∧ H'[0]? = some (.cells 1 [[fns fs]]) ∧ H'[1]? = some b1 ∧ H'[2]? = some b2 ∧ H'[3]? = some (.cells 7 [(nth fs fi).cells]) ∧ H'[5]? = some (.cells 1 [[.sl 4 0 (nth fs fi).Nodes.length (nth fs fi).Nodes.length]]) ∧ H'[4]? = some (.cells 1 (bl out)) ∧ out.length = (nth fs fi).Nodes.length ∧ (∀ m : Int, 0 ≤ m → m < (nth fs fi).Nodes.length → (nth out m = true ↔ Bad8 fs fi m)) ∧ 6 ≤ H'.length ∧ ∀ e ∈ ed', (e.1 = 4 ∧ 4 < e.2) ∧ e.2 < H'.length := by
  obtain ⟨H', ed', h1, ⟨out, hm⟩, h2, h3, h4⟩ := es_scopes hf (h6 fs b1 b2 (nth fs fi) (bl (List.replicate (nth fs fi).Nodes.length false))) (cid := 4) (by simp [h6]) (See3 fs fi hf hu hg 6 3 4 5 0 (by decide) (by decide) (by decide) (by decide) (by decide) (by decide) (by decide)) ⟨rfl, rfl, rfl⟩ ⟨List.replicate (nth fs fi).Nodes.length false, ⟨rfl, by simp, fun m _ _ => by rw [nth_falses]; simp⟩⟩
  exact ⟨H', ed', out, h1, h2 0 (by simp [h6]) (by decide), h2 1 (by simp [h6]) (by decide), h2 2 (by simp [h6]) (by decide), h2 3 (by simp [h6]) (by decide), h2 5 (by simp [h6]) (by decide), hm.blk, hm.len, fun m m0 m1 => by rw [hm.row m m0 m1]; exact ⟨fun h => h.2, fun h => ⟨⟨m0, m1⟩, h⟩⟩, h3, h4⟩
theorem li_18 (fs : List Fn) (t : Int) (hb : fs.length ≤ 1048576) (hF : ∀ f : Int, 0 ≤ f → f < fs.length → FnT (nth fs f)) (hR : ∀ f : Int, 0 ≤ f → f < fs.length → ∀ n : Int, 0 ≤ n → n < (nth fs f).Nodes.length → (nth (nth fs f).Nodes n).Kind = 36 → 0 ≤ nth (nth (nth fs f).Nodes n).Refs 0 ∧ nth (nth (nth fs f).Nodes n).Refs 0 < fs.length) (a0 : List Bool) (hok0 : a0.length = fs.length) : OnSum (fun (a : List Bool) => EV A (.loop (B_zCU 18)) (⟨E18 fs t (0), [], [.cells 1 [[fns fs]], .cells 3 [[.int .i64 0, .int .i64 0, .int .i64 0]], .cells 1 (bl a0)], []⟩ : St) = some (AExit.exit 37, (⟨E18 fs t (fs.length), [], [.cells 1 [[fns fs]], .cells 3 [[.int .i64 0, .int .i64 0, .int .i64 0]], .cells 1 (bl a)], []⟩ : St)) ∧ a.length = fs.length) (fun (r : Int × Int) => ∃ st, EV A (.loop (B_zCU 18)) (⟨E18 fs t (0), [], [.cells 1 [[fns fs]], .cells 3 [[.int .i64 0, .int .i64 0, .int .i64 0]], .cells 1 (bl a0)], []⟩ : St) = some (.ret, st) ∧ ResAt 2 1 3 (flt3 8 r.1 r.2) st) (iterx (fun (i : Int) (a : List Bool) => gMades fs i a) ((fs.length : Int) - 0).toNat (0) a0) := by
  refine loop_iterq (P := A) (body := (B_zCU 18)) (fun i (a : List Bool) => (⟨E18 fs t i, [], [.cells 1 [[fns fs]], .cells 3 [[.int .i64 0, .int .i64 0, .int .i64 0]], .cells 1 (bl a)], []⟩ : St)) (fun (i : Int) (a : List Bool) => gMades fs i a) (fun i (a : List Bool) => a.length = fs.length) (fun a => (AExit.exit 37, (⟨E18 fs t (fs.length), [], [.cells 1 [[fns fs]], .cells 3 [[.int .i64 0, .int .i64 0, .int .i64 0]], .cells 1 (bl a)], []⟩ : St))) (fun (r : Int × Int) (st : St) => ResAt 2 1 3 (flt3 8 r.1 r.2) st) (0) (fs.length) ?_ ?_ (0) a0 (by omega) (by omega) hok0
  · intro i a hi hn hok
    have hf := hF i hi hn
    have hb2 := hf.hg.hb
    obtain ⟨H', ed', out, he, p0, p1, p2, p3, p5, p4, hl, ho, hlen, hed⟩ := scopes3 fs i (.cells 3 [[.int .i64 0, .int .i64 0, .int .i64 0]]) (.cells 1 (bl a)) hf (fun k k0 k1 => (hF k k0 k1).hu) (hR i hi hn)
    have h19 := li_19 fs i t (fun a => H'.set 2 (.cells 1 (bl a))) H'.length ed' out hi hn hb hf (hR i hi hn) hl ho (fun e h => (hed e h).2) hlen (fun a => by simp) (fun a l => app_old _ _ (by rw [List.getElem?_set_ne (by decide)]; exact p1)) (fun a l => app_old _ _ (List.getElem?_set_self (by omega))) (fun a l => app_old _ _ (by rw [List.getElem?_set_ne (by decide)]; exact p4)) (fun a l => app_old _ _ (by rw [List.getElem?_set_ne (by decide)]; exact p5)) (fun a x l => by rw [List.getElem?_append_right (by simp)]; simp) (fun a x y => by rw [List.set_append_right _ _ (by simp)]; simp) (fun a a' l => by rw [List.set_append_left _ _ (by simp; omega), List.set_set]) a hok
    simp only [set_same p2] at h19
    have hI : madeIn fs i a = iterx (fun (n : Int) (a : List Bool) => gMade fs i n a) (((nth fs i).Nodes.length : Int) - 0).toNat 0 a := rfl
    rw [← hI] at h19
    simp only [h6, bl, fns, Fn.cells, nodes, strs, ups] at he
    simp only [fns, Fn.cells, nodes, strs, ups] at p3
    rw [gMades]
    cases hr : madeIn fs i a with
    | inl s' =>
      rw [hr] at h19
      obtain ⟨h19, hs'⟩ := h19
      simp only [E19, unit, fns, Fn.cells, nodes, strs, ups, bl] at h19
      refine ⟨⟨_, by (simp -implicitDefEqProofs +contextual (disch := omega) only [ub_zCU_18, rr_zCU, E18, bl, unit, fns, Fn.cells, nodes, strs, ups, ints, ↓XD, XU, ↓reduceIte, sevalprocAttr, hn, hok, he, p3, p5, h19]) <;> rfl, ?_⟩, hs'⟩
      refine (next_cut (c := 4) ?_ (fun e h => (hed e h).1) ?_).trans ?_
      · exact (show (3 : Nat) ≤ 4 by decide)
      · simp [bare, refsL, refs]
      · show (⟨_, [], List.take 3 (H'.set 2 _), []⟩ : St) = _
        rw [take_three (by rw [List.getElem?_set_ne (by decide)]; exact p0) (by rw [List.getElem?_set_ne (by decide)]; exact p1) (List.getElem?_set_self (by omega))]; rfl
    | inr n =>
      rw [hr] at h19
      obtain ⟨st, h19, hg2⟩ := h19
      simp only [E19, unit, fns, Fn.cells, nodes, strs, ups, bl] at h19
      exact ⟨_, by (simp -implicitDefEqProofs +contextual (disch := omega) only [ub_zCU_18, rr_zCU, E18, bl, unit, fns, Fn.cells, nodes, strs, ups, ints, ↓XD, XU, ↓reduceIte, sevalprocAttr, hn, hok, he, p3, p5, h19]) <;> rfl, hg2⟩
  · rintro i a hi rfl hok
    refine ⟨by simp -implicitDefEqProofs +contextual (disch := omega) only [ub_zCU_18, rr_zCU, ↓XD, XU, ↓reduceIte, sevalprocAttr, E18, unit, fns, Int.lt_irrefl, hok], by simp⟩
theorem li_20 (fs : List Fn) (t : Int) (l : List Bool) (hb : fs.length ≤ 1048576) (hl : l.length = fs.length) : match seek (fun (j : Int) => 0 < j ∧ ¬nth l j = true) 0 fs.length with | some j => ∃ st, EV A (.loop (B_zCU 20)) (⟨[(0, unit fs), (1, .ptr 0 0 0 1), (2, .ptr 1 0 0 1), (3, .int .i64 t), (49, fns fs), (50, .int .i64 fs.length), (51, .int .i64 fs.length), (78, .int .i64 fs.length), (79, .int .i64 fs.length), (90, fns fs), (91, .int .i64 fs.length), (92, .int .i64 fs.length), (113, fns fs), (114, .int .i64 fs.length), (115, .int .i64 fs.length), (186, fns fs), (187, .int .i64 fs.length), (188, .int .i64 fs.length), (242, fns fs), (243, .int .i64 fs.length), (244, .int .i64 fs.length), (362, fns fs), (363, .int .i64 fs.length), (364, .int .i64 fs.length), (40, .sl 2 0 fs.length fs.length), (395, fns fs), (396, .int .i64 fs.length), (397, .int .i64 fs.length), (456, .int .i64 fs.length), (457, .int .i64 (0))], [], [.cells 1 [[fns fs]], .cells 3 [[.int .i64 0, .int .i64 0, .int .i64 0]], .cells 1 (bl l)], []⟩ : St) = some (.ret, st) ∧ ResAt 2 1 3 (flt3 9 j 0) st | none => EV A (.loop (B_zCU 20)) (⟨[(0, unit fs), (1, .ptr 0 0 0 1), (2, .ptr 1 0 0 1), (3, .int .i64 t), (49, fns fs), (50, .int .i64 fs.length), (51, .int .i64 fs.length), (78, .int .i64 fs.length), (79, .int .i64 fs.length), (90, fns fs), (91, .int .i64 fs.length), (92, .int .i64 fs.length), (113, fns fs), (114, .int .i64 fs.length), (115, .int .i64 fs.length), (186, fns fs), (187, .int .i64 fs.length), (188, .int .i64 fs.length), (242, fns fs), (243, .int .i64 fs.length), (244, .int .i64 fs.length), (362, fns fs), (363, .int .i64 fs.length), (364, .int .i64 fs.length), (40, .sl 2 0 fs.length fs.length), (395, fns fs), (396, .int .i64 fs.length), (397, .int .i64 fs.length), (456, .int .i64 fs.length), (457, .int .i64 (0))], [], [.cells 1 [[fns fs]], .cells 3 [[.int .i64 0, .int .i64 0, .int .i64 0]], .cells 1 (bl l)], []⟩ : St) = some (AExit.exit 41, (⟨[(0, unit fs), (1, .ptr 0 0 0 1), (2, .ptr 1 0 0 1), (3, .int .i64 t), (49, fns fs), (50, .int .i64 fs.length), (51, .int .i64 fs.length), (78, .int .i64 fs.length), (79, .int .i64 fs.length), (90, fns fs), (91, .int .i64 fs.length), (92, .int .i64 fs.length), (113, fns fs), (114, .int .i64 fs.length), (115, .int .i64 fs.length), (186, fns fs), (187, .int .i64 fs.length), (188, .int .i64 fs.length), (242, fns fs), (243, .int .i64 fs.length), (244, .int .i64 fs.length), (362, fns fs), (363, .int .i64 fs.length), (364, .int .i64 fs.length), (40, .sl 2 0 fs.length fs.length), (395, fns fs), (396, .int .i64 fs.length), (397, .int .i64 fs.length), (456, .int .i64 fs.length), (457, .int .i64 (fs.length))], [], [.cells 1 [[fns fs]], .cells 3 [[.int .i64 0, .int .i64 0, .int .i64 0]], .cells 1 (bl l)], []⟩ : St)) := by
  refine loop_seek (fun i => (⟨[(0, unit fs), (1, .ptr 0 0 0 1), (2, .ptr 1 0 0 1), (3, .int .i64 t), (49, fns fs), (50, .int .i64 fs.length), (51, .int .i64 fs.length), (78, .int .i64 fs.length), (79, .int .i64 fs.length), (90, fns fs), (91, .int .i64 fs.length), (92, .int .i64 fs.length), (113, fns fs), (114, .int .i64 fs.length), (115, .int .i64 fs.length), (186, fns fs), (187, .int .i64 fs.length), (188, .int .i64 fs.length), (242, fns fs), (243, .int .i64 fs.length), (244, .int .i64 fs.length), (362, fns fs), (363, .int .i64 fs.length), (364, .int .i64 fs.length), (40, .sl 2 0 fs.length fs.length), (395, fns fs), (396, .int .i64 fs.length), (397, .int .i64 fs.length), (456, .int .i64 fs.length), (457, .int .i64 i)], [], [.cells 1 [[fns fs]], .cells 3 [[.int .i64 0, .int .i64 0, .int .i64 0]], .cells 1 (bl l)], []⟩ : St)) (fun (j : Int) => 0 < j ∧ ¬nth l j = true) (fun (j : Int) (st : St) => ResAt 2 1 3 (flt3 9 j 0) st) (AExit.exit 41, (⟨[(0, unit fs), (1, .ptr 0 0 0 1), (2, .ptr 1 0 0 1), (3, .int .i64 t), (49, fns fs), (50, .int .i64 fs.length), (51, .int .i64 fs.length), (78, .int .i64 fs.length), (79, .int .i64 fs.length), (90, fns fs), (91, .int .i64 fs.length), (92, .int .i64 fs.length), (113, fns fs), (114, .int .i64 fs.length), (115, .int .i64 fs.length), (186, fns fs), (187, .int .i64 fs.length), (188, .int .i64 fs.length), (242, fns fs), (243, .int .i64 fs.length), (244, .int .i64 fs.length), (362, fns fs), (363, .int .i64 fs.length), (364, .int .i64 fs.length), (40, .sl 2 0 fs.length fs.length), (395, fns fs), (396, .int .i64 fs.length), (397, .int .i64 fs.length), (456, .int .i64 fs.length), (457, .int .i64 (fs.length))], [], [.cells 1 [[fns fs]], .cells 3 [[.int .i64 0, .int .i64 0, .int .i64 0]], .cells 1 (bl l)], []⟩ : St)) (0) (fs.length) ?_ ?_ ?_ (0) (by omega) (by omega)
  · intro i hi hn hp
    by_cases hL : 0 < i
    · have hp' : nth l i = true := Classical.not_not.1 (fun h => hp ⟨hL, h⟩)
      refine ⟨_, by (simp -implicitDefEqProofs +contextual (disch := omega) only [ub_zCU_20, rr_zCU, unit, fns, bl, hl, ↓XD, XU, ↓reduceIte, sevalprocAttr, hn, hL, hp']) <;> rfl, by simp [St.next, trim_all]⟩
    · refine ⟨_, by (simp -implicitDefEqProofs +contextual (disch := omega) only [ub_zCU_20, rr_zCU, unit, fns, bl, hl, ↓XD, XU, ↓reduceIte, sevalprocAttr, hn, hL]) <;> rfl, by simp [St.next, trim_all]⟩
  · intro i hi hn hp
    have hp1 := hp.1
    have hp2 := hp.2
    refine ⟨_, by (simp -implicitDefEqProofs +contextual (disch := omega) only [ub_zCU_20, rr_zCU, unit, fns, bl, hl, ↓XD, XU, ↓reduceIte, sevalprocAttr, hn, hp1, hp2]) <;> rfl, by simp [ResAt, Env.get, Env.put]⟩
  · rintro i hi rfl
    refine ⟨by simp -implicitDefEqProofs +contextual (disch := omega) only [ub_zCU_20, rr_zCU, ↓XD, XU, ↓reduceIte, sevalprocAttr, unit, fns, bl, hl, Int.lt_irrefl], by simp⟩
theorem seek_from {p : Int → Prop} {n : Int} (h : 1 ≤ n) : seek (fun j => 0 < j ∧ p j) 0 n = seek p 1 n := by
  rw [seek_miss (by omega) (by omega)]
  exact seek_congr fun j j0 j1 => ⟨fun h => h.2, fun h => ⟨by omega, h⟩⟩
end Go.Proofs.Try.Av
end
section
attribute [local congr] ite_congr
set_option maxRecDepth 10000
set_option maxHeartbeats 2000000
namespace Go.Proofs.Try.Av
open Go Go.Av Classical
theorem Fine.fnT {fs : List Fn} (h : Fine fs) (hs : SizedF fs) (h2 : (second fs).1 = 0) {f : Int} (f0 : 0 ≤ f) (f1 : f < fs.length) : FnT (nth fs f) :=
  ⟨h.fn hs h2 f0 f1, (second_tree h2).1 f f0 f1, h.shape f f0 f1⟩
theorem ep_implCheckUnit (fs : List Fn) (hb : fs.length ≤ 1048576) (ht : total fs ≤ 1048576) (hs : SizedF fs) : EP A n_zCU [unit fs] = some (fl3 (specFault fs)) := by
  obtain ⟨e0, k0⟩ := li_0 fs hb ht 0 (by simp [totalN])
  simp only [k0] at e0
  have hT : totalN fs (fs.length : Int).toNat = total fs := by rw [totalN, total]; simp
  rw [hT] at e0
  simp only [hU, unit, fns] at e0
  have e1 := li_1 fs (total fs) hb hs
  have e2 := li_2 fs (total fs) hb hs
  simp only [hU, unit, fns] at e1 e2
  rw [specFault]
  by_cases hB : Big fs
  · have h1 : (first fs) = (1, 0, 0) := by rw [first, if_pos hB]
    simp only [h1]
    rcases hB with (h | h) | h
    · have h : (fs.length : Int) < 1 := by omega
      simp -implicitDefEqProofs +contextual (disch := omega) only [e_zCU, u_zCU, rr_zCU, unit, fns, ↓XD, XU, ↓reduceIte, sevalprocAttr, e0, h]
    · simp -implicitDefEqProofs +contextual (disch := omega) only [e_zCU, u_zCU, rr_zCU, unit, fns, ↓XD, XU, ↓reduceIte, sevalprocAttr, e0, h]
    · simp -implicitDefEqProofs +contextual (disch := omega) only [e_zCU, u_zCU, rr_zCU, unit, fns, ↓XD, XU, ↓reduceIte, sevalprocAttr, e0, h]
  · have hb1 : ¬(fs.length : Int) < 1 := by rw [Big] at hB; omega
    have hb2 : ¬300 < (fs.length : Int) := by rw [Big] at hB; omega
    have hb3 : ¬3000 < total fs := by rw [Big] at hB; omega
    have f0 : first fs = match badHead fs with
      | some f => (2, f, 0)
      | none => match badShapes fs with
        | some f => (3, f, (badShape fs f).getD 0)
        | none => (0, 0, 0) := by rw [first, if_neg hB]; rfl
    cases k1 : badHead fs with
    | some f =>
      rw [k1] at f0
      unfold badHead at k1
      rw [k1] at e1
      obtain ⟨st, e1, g1, g2⟩ := e1
      simp only [f0]
      simp -implicitDefEqProofs +contextual (disch := omega) only [e_zCU, u_zCU, rr_zCU, unit, fns, ↓XD, XU, ↓reduceIte, sevalprocAttr, e0, e1, g1, g2, hb1, hb2, hb3]
    | none =>
      rw [k1] at f0
      unfold badHead at k1
      rw [k1] at e1
      dsimp only at e1 f0
      cases k2 : badShapes fs with
      | some f =>
        rw [k2] at f0
        unfold badShapes at k2
        rw [k2] at e2
        obtain ⟨st, e2, g1, g2⟩ := e2
        simp only [f0]
        simp -implicitDefEqProofs +contextual (disch := omega) only [e_zCU, u_zCU, rr_zCU, unit, fns, ↓XD, XU, ↓reduceIte, sevalprocAttr, e0, e1, e2, g1, g2, hb1, hb2, hb3]
      | none =>
        rw [k2] at f0
        unfold badShapes at k2
        rw [k2] at e2
        dsimp only at e2 f0
        have hf := first_fine (fs := fs) (by rw [f0])
        have hG := fun f f0 f1 => hf.grow hs (f := f) f0 f1
        have e3 := li_4 fs (total fs) hb hG
        have e4 := li_8 fs (total fs) hb hG
        have hS : badPars fs = seek (fun j => badUse fs j ≠ none) 0 fs.length := seek_congr fun j j0 j1 => by rw [badUse_same hG j0 j1]
        rw [← hS] at e3
        simp only [hU, unit, fns] at e3 e4
        rw [if_neg (by rw [f0]; simp)]
        have s0 : second fs = match badPars fs with
          | some f => (4, f, (badPar fs f).getD 0)
          | none => match badDeps fs with
            | some f => (5, f, (badDep fs f).getD 0)
            | none => (0, 0, 0) := rfl
        cases k3 : badPars fs with
        | some f =>
          rw [k3] at s0 e3
          obtain ⟨st, e3, g1, g2⟩ := e3
          obtain ⟨j0, j1, _, _⟩ := seek_some.1 k3
          rw [badUse_same hG j0 j1] at g2
          simp only [s0]
          simp -implicitDefEqProofs +contextual (disch := omega) only [e_zCU, u_zCU, rr_zCU, unit, fns, ↓XD, XU, ↓reduceIte, sevalprocAttr, e0, e1, e2, e3, g1, g2, hb1, hb2, hb3]
        | none =>
          rw [k3] at s0 e3
          dsimp only at e3 s0
          have hS2 : badDeps fs = seek (fun j => badDepI fs j ≠ none) 0 fs.length := seek_congr fun j j0 j1 => by rw [badDep_same hG k3 j0 j1]
          rw [← hS2] at e4
          cases k4 : badDeps fs with
          | some f =>
            rw [k4] at s0 e4
            obtain ⟨st, e4, g1, g2⟩ := e4
            obtain ⟨j0, j1, _, _⟩ := seek_some.1 k4
            rw [badDep_same hG k3 j0 j1] at g2
            simp only [s0]
            simp -implicitDefEqProofs +contextual (disch := omega) only [e_zCU, u_zCU, rr_zCU, unit, fns, ↓XD, XU, ↓reduceIte, sevalprocAttr, e0, e1, e2, e3, e4, g1, g2, hb1, hb2, hb3]
          | none =>
            rw [k4] at s0 e4
            dsimp only at e4 s0
            have hF := fun f f0 f1 => hf.fnT hs (by rw [s0]) (f := f) f0 f1
            have e5 := li_12 fs (total fs) hb hF
            have e6 := li_16 fs (total fs) hb hF
            simp only [hU, unit, fns] at e5 e6
            rw [if_neg (by rw [s0]; simp), third]
            cases k5 : badRefs fs with
            | some f =>
              unfold badRefs at k5
              rw [k5] at e5
              obtain ⟨st, e5, g1, g2⟩ := e5
              simp -implicitDefEqProofs +contextual (disch := omega) only [e_zCU, u_zCU, rr_zCU, unit, fns, ↓XD, XU, ↓reduceIte, sevalprocAttr, e0, e1, e2, e3, e4, e5, g1, g2, hb1, hb2, hb3]
            | none =>
              have hR := refs_fine k5
              unfold badRefs at k5
              rw [k5] at e5
              dsimp only at e5 ⊢
              cases k6 : badLoops fs with
              | some f =>
                unfold badLoops at k6
                rw [k6] at e6
                obtain ⟨st, e6, g1, g2⟩ := e6
                simp -implicitDefEqProofs +contextual (disch := omega) only [e_zCU, u_zCU, rr_zCU, unit, fns, ↓XD, XU, ↓reduceIte, sevalprocAttr, e0, e1, e2, e3, e4, e5, e6, g1, g2, hb1, hb2, hb3]
              | none =>
                unfold badLoops at k6
                rw [k6] at e6
                dsimp only at e6 ⊢
                have e7 := li_18 fs (total fs) hb hF hR (List.replicate fs.length false) (by simp)
                have hI : madeAll fs = iterx (fun (f : Int) (a : List Bool) => gMades fs f a) ((fs.length : Int) - 0).toNat 0 (List.replicate fs.length false) := rfl
                rw [← hI] at e7
                cases k7 : madeAll fs with
                | inr r =>
                  rw [k7] at e7
                  obtain ⟨st, e7, g1, g2⟩ := e7
                  simp only [E18, bl, unit, fns] at e7
                  simp -implicitDefEqProofs +contextual (disch := omega) only [e_zCU, u_zCU, rr_zCU, unit, fns, ↓XD, XU, ↓reduceIte, sevalprocAttr, e0, e1, e2, e3, e4, e5, e6, e7, g1, g2, hb1, hb2, hb3]
                | inl l =>
                  rw [k7] at e7
                  obtain ⟨e7, hl⟩ := e7
                  simp only [E18, bl, unit, fns] at e7
                  have e8 := li_20 fs (total fs) l hb hl
                  rw [seek_from (p := fun j => ¬nth l j = true) (by omega)] at e8
                  simp only [bl, unit, fns] at e8
                  dsimp only
                  cases k8 : seek (fun j => ¬nth l j = true) 1 fs.length with
                  | some f =>
                    rw [k8] at e8
                    obtain ⟨st, e8, g1, g2⟩ := e8
                    simp -implicitDefEqProofs +contextual (disch := omega) only [e_zCU, u_zCU, rr_zCU, unit, fns, ↓XD, XU, ↓reduceIte, sevalprocAttr, e0, e1, e2, e3, e4, e5, e6, e7, e8, g1, g2, hb1, hb2, hb3]
                  | none =>
                    rw [k8] at e8
                    simp -implicitDefEqProofs +contextual (disch := omega) only [e_zCU, u_zCU, rr_zCU, unit, fns, ↓XD, XU, ↓reduceIte, sevalprocAttr, e0, e1, e2, e3, e4, e5, e6, e7, e8, hb1, hb2, hb3]
end Go.Proofs.Try.Av
end
section
attribute [local congr] ite_congr
set_option maxRecDepth 10000
set_option maxHeartbeats 4000000
namespace Go.Proofs.Try.Av
open Go Go.Av Classical
theorem iterx_at {σ ρ : Type} {g : Int → σ → σ ⊕ ρ} : ∀ (m : Nat) (i : Int) (a b : σ), iterx g m i a = .inl b → ∀ k, i ≤ k → k < i + m → ∃ s s', g k s = .inl s'
  | 0, i, a, b, h, k, k0, k1 => by omega
  | m + 1, i, a, b, h, k, k0, k1 => by
    rw [iterx] at h
    cases hg : g i a with
    | inr r => rw [hg] at h; cases h
    | inl s =>
      rw [hg] at h
      by_cases e : k = i
      · subst e; exact ⟨a, s, hg⟩
      · exact iterx_at m (i + 1) s b h k (by omega) (by omega)
structure Sound (fs : List Fn) : Prop where
  fn : ∀ f : Int, 0 ≤ f → f < fs.length → FnOk (nth fs f)
  refs : ∀ f : Int, 0 ≤ f → f < fs.length → ∀ n : Int, 0 ≤ n → n < (nth fs f).Nodes.length → (nth (nth fs f).Nodes n).Kind = 36 → 0 ≤ nth (nth (nth fs f).Nodes n).Refs 0 ∧ nth (nth (nth fs f).Nodes n).Refs 0 < fs.length
  ups : ∀ f : Int, 0 ≤ f → f < fs.length → ∀ n : Int, 0 ≤ n → n < (nth fs f).Nodes.length → (nth (nth fs f).Nodes n).Kind = 36 → UpsOk fs f (growP (nth fs f).Nodes) n (nth (nth (nth fs f).Nodes n).Refs 0)
theorem sound_of {fs : List Fn} (hs : SizedF fs) (h : (specFault fs).1 = 0) : Sound fs := by
  rw [specFault] at h
  by_cases h1 : (first fs).1 = 0
  · rw [if_neg (by simpa using h1)] at h
    have hf := first_fine h1
    by_cases h2 : (second fs).1 = 0
    · rw [if_neg (by simpa using h2), third] at h
      cases k1 : badRefs fs with
      | some f => rw [k1] at h; exact absurd h (by dsimp only; decide)
      | none =>
        rw [k1] at h
        dsimp only at h
        cases k2 : badLoops fs with
        | some f => rw [k2] at h; exact absurd h (by dsimp only; decide)
        | none =>
          rw [k2] at h
          dsimp only at h
          cases k3 : madeAll fs with
          | inr r => rw [k3] at h; exact absurd h (by dsimp only; decide)
          | inl l =>
            refine ⟨fun f f0 f1 => hf.fn hs h2 f0 f1, refs_fine k1, fun f f0 f1 n n0 n1 hk => ?_⟩
            obtain ⟨s, s', e⟩ := iterx_at _ _ _ _ k3 f f0 (by omega)
            rw [gMades] at e
            cases k4 : madeIn fs f s with
            | inr r => rw [k4] at e; cases e
            | inl s2 =>
              obtain ⟨t, t', e2⟩ := iterx_at _ _ _ _ k4 n n0 (by omega)
              rw [gMade] at e2
              by_cases c1 : (nth (nth fs f).Nodes n).Kind = 37 ∧ ¬(nth fs f).Rest = true
              · omega
              · rw [if_neg c1, if_pos hk] at e2
                by_cases c2 : (nth (nth (nth fs f).Nodes n).Refs 0 ≤ f ∨ nth t (nth (nth (nth fs f).Nodes n).Refs 0) = true) ∨ ¬UpsOk fs f (growP (nth fs f).Nodes) n (nth (nth (nth fs f).Nodes n).Refs 0)
                · rw [if_pos c2] at e2; cases e2
                · exact Classical.not_not.1 fun h => c2 (.inr h)
    · rw [if_pos h2] at h; exact absurd h h2
  · rw [if_pos h1] at h; exact absurd h h1
abbrev gCap (us : List Up) (j : Int) (a : List Bool) : List Bool := if (nth us j).Local = true then a.set (nth us j).Index.toNat true else a
def capUps (us : List Up) (a : List Bool) : List Bool := iter (fun (j : Int) (a : List Bool) => gCap us j a) ((us.length : Int) - 0).toNat 0 a
noncomputable abbrev gNode (fs : List Fn) (f : Int) (n : Int) (a : List Bool) : List Bool := if (nth (nth fs f).Nodes n).Kind = 36 then capUps (nth fs (nth (nth (nth fs f).Nodes n).Refs 0)).Ups a else a
noncomputable def capt (fs : List Fn) (f : Int) : List Bool := iter (fun (n : Int) (a : List Bool) => gNode fs f n a) (((nth fs f).Nodes.length : Int) - 0).toNat 0 (List.replicate (nth fs f).Vars.length false)
theorem up_in {fs : List Fn} {f : Int} {pa : List Int} {a g : Int} (h : UpsOk fs f pa a g) (j : Int) (j0 : 0 ≤ j) (j1 : j < (nth fs g).Ups.length) (hl : (nth (nth fs g).Ups j).Local = true) : 0 ≤ (nth (nth fs g).Ups j).Index ∧ (nth (nth fs g).Ups j).Index < (nth fs f).Vars.length := by
  have := h j j0 j1
  rw [UpBad, if_pos hl] at this
  omega
theorem lc_s1 (fs : List Fn) (f : Fn) (fi n : Int) (nd : Node) (us : List Up) (hu : us.length ≤ 1048576) (hx : ∀ j : Int, 0 ≤ j → j < us.length → (nth us j).Local = true → 0 ≤ (nth us j).Index ∧ (nth us j).Index < f.Vars.length) (a0 : List Bool) (hok0 : a0.length = f.Vars.length) : EV A (.loop (B_spec_l8captured 1)) (⟨[(0, unit fs), (1, .int .i64 fi), (2, .ptr 0 0 0 1), (4, .nils), (5, .sl 1 0 f.Vars.length f.Vars.length), (23, nodes f.Nodes), (24, .int .i64 f.Nodes.length), (25, .int .i64 n), (7, .ptr 2 0 0 1), (40, ups us), (41, .int .i64 us.length), (42, .int .i64 (0))], [], [.cells 1 [[fns fs]], .cells 1 (bl a0), .cells 8 [nd.cells]], []⟩ : St) = some (AExit.exit 2, (⟨[(0, unit fs), (1, .int .i64 fi), (2, .ptr 0 0 0 1), (4, .nils), (5, .sl 1 0 f.Vars.length f.Vars.length), (23, nodes f.Nodes), (24, .int .i64 f.Nodes.length), (25, .int .i64 n), (7, .ptr 2 0 0 1), (40, ups us), (41, .int .i64 us.length), (42, .int .i64 (us.length))], [], [.cells 1 [[fns fs]], .cells 1 (bl (iter (fun (i : Int) (a : List Bool) => gCap us i a) ((us.length : Int) - 0).toNat (0) a0)), .cells 8 [nd.cells]], []⟩ : St)) ∧ (iter (fun (i : Int) (a : List Bool) => gCap us i a) ((us.length : Int) - 0).toNat (0) a0).length = f.Vars.length := by
  refine loop_iter (fun i (a : List Bool) => (⟨[(0, unit fs), (1, .int .i64 fi), (2, .ptr 0 0 0 1), (4, .nils), (5, .sl 1 0 f.Vars.length f.Vars.length), (23, nodes f.Nodes), (24, .int .i64 f.Nodes.length), (25, .int .i64 n), (7, .ptr 2 0 0 1), (40, ups us), (41, .int .i64 us.length), (42, .int .i64 i)], [], [.cells 1 [[fns fs]], .cells 1 (bl a), .cells 8 [nd.cells]], []⟩ : St)) (fun (i : Int) (a : List Bool) => gCap us i a) (fun i (a : List Bool) => a.length = f.Vars.length) (fun a => (AExit.exit 2, (⟨[(0, unit fs), (1, .int .i64 fi), (2, .ptr 0 0 0 1), (4, .nils), (5, .sl 1 0 f.Vars.length f.Vars.length), (23, nodes f.Nodes), (24, .int .i64 f.Nodes.length), (25, .int .i64 n), (7, .ptr 2 0 0 1), (40, ups us), (41, .int .i64 us.length), (42, .int .i64 (us.length))], [], [.cells 1 [[fns fs]], .cells 1 (bl a), .cells 8 [nd.cells]], []⟩ : St))) (0) (us.length) ?_ ?_ (0) a0 (by omega) (by omega) hok0
  · intro i a hi hn hok
    have hx1 := hx i hi hn
    by_cases hL : (nth us i).Local = true
    · have hx2 := hx1 hL
      refine ⟨⟨_, by simp -implicitDefEqProofs +contextual (disch := omega) only [ub_spec_l8captured_1, rr_spec_l8captured, ↓XD, XU, ↓reduceIte, sevalprocAttr, unit, fns, bl, nodes, ups, Up.cells, Node.cells, ints, gCap, hL, hn, hok]; rfl, by first | (simp [St.next, trim_all, gCap, bl, hL]; done) | (simp [St.next, trim_all, gCap, bl, hL]; omega) | (simp [St.next, trim, bare, refsL, refs, gCap, bl, hL]; done)⟩, by simp only [gCap]; split <;> simpa using hok⟩
    · refine ⟨⟨_, by simp -implicitDefEqProofs +contextual (disch := omega) only [ub_spec_l8captured_1, rr_spec_l8captured, ↓XD, XU, ↓reduceIte, sevalprocAttr, unit, fns, bl, nodes, ups, Up.cells, Node.cells, ints, gCap, hL, hn, hok]; rfl, by first | (simp [St.next, trim_all, gCap, bl, hL]; done) | (simp [St.next, trim_all, gCap, bl, hL]; omega) | (simp [St.next, trim, bare, refsL, refs, gCap, bl, hL]; done)⟩, by simp only [gCap]; split <;> simpa using hok⟩
  · rintro i a hi rfl hok
    refine ⟨by simp -implicitDefEqProofs +contextual (disch := omega) only [ub_spec_l8captured_1, rr_spec_l8captured, ↓XD, XU, ↓reduceIte, sevalprocAttr, unit, fns, bl, nodes, ups, Up.cells, Node.cells, ints, gCap, Int.lt_irrefl, hok], by simp⟩
theorem lc_s0 (fs : List Fn) (fi : Int) (hb : fs.length ≤ 1048576) (f0 : 0 ≤ fi) (f1 : fi < fs.length) (h : Sound fs) (a0 : List Bool) (hok0 : a0.length = (nth fs fi).Vars.length) : EV A (.loop (B_spec_l8captured 0)) (⟨[(0, unit fs), (1, .int .i64 fi), (2, .ptr 0 0 0 1), (4, .nils), (5, .sl 1 0 (nth fs fi).Vars.length (nth fs fi).Vars.length), (23, nodes (nth fs fi).Nodes), (24, .int .i64 (nth fs fi).Nodes.length), (25, .int .i64 (0))], [], [.cells 1 [[fns fs]], .cells 1 (bl a0)], []⟩ : St) = some (AExit.exit 0, (⟨[(0, unit fs), (1, .int .i64 fi), (2, .ptr 0 0 0 1), (4, .nils), (5, .sl 1 0 (nth fs fi).Vars.length (nth fs fi).Vars.length), (23, nodes (nth fs fi).Nodes), (24, .int .i64 (nth fs fi).Nodes.length), (25, .int .i64 ((nth fs fi).Nodes.length))], [], [.cells 1 [[fns fs]], .cells 1 (bl (iter (fun (i : Int) (a : List Bool) => gNode fs fi i a) (((nth fs fi).Nodes.length : Int) - 0).toNat (0) a0))], []⟩ : St)) ∧ (iter (fun (i : Int) (a : List Bool) => gNode fs fi i a) (((nth fs fi).Nodes.length : Int) - 0).toNat (0) a0).length = (nth fs fi).Vars.length := by
  refine loop_iter (fun i (a : List Bool) => (⟨[(0, unit fs), (1, .int .i64 fi), (2, .ptr 0 0 0 1), (4, .nils), (5, .sl 1 0 (nth fs fi).Vars.length (nth fs fi).Vars.length), (23, nodes (nth fs fi).Nodes), (24, .int .i64 (nth fs fi).Nodes.length), (25, .int .i64 i)], [], [.cells 1 [[fns fs]], .cells 1 (bl a)], []⟩ : St)) (fun (i : Int) (a : List Bool) => gNode fs fi i a) (fun i (a : List Bool) => a.length = (nth fs fi).Vars.length) (fun a => (AExit.exit 0, (⟨[(0, unit fs), (1, .int .i64 fi), (2, .ptr 0 0 0 1), (4, .nils), (5, .sl 1 0 (nth fs fi).Vars.length (nth fs fi).Vars.length), (23, nodes (nth fs fi).Nodes), (24, .int .i64 (nth fs fi).Nodes.length), (25, .int .i64 ((nth fs fi).Nodes.length))], [], [.cells 1 [[fns fs]], .cells 1 (bl a)], []⟩ : St))) (0) ((nth fs fi).Nodes.length) ?_ ?_ (0) a0 (by omega) (by omega) hok0
  · intro i a hi hn hok
    have hf := h.fn fi f0 f1; have hb2 := hf.hg.hb; have hr1 := hf.hr i hi hn; have hg := h.refs fi f0 f1 i hi hn; have hup := h.ups fi f0 f1 i hi hn
    by_cases hL : (nth (nth fs fi).Nodes i).Kind = 36
    · have hr2 := hr1 (.inr (.inr hL)); have hg2 := hg hL; have hf2 := (h.fn _ hg2.1 hg2.2).hu; have hl := lc_s1 fs (nth fs fi) fi i (nth (nth fs fi).Nodes i) (nth fs (nth (nth (nth fs fi).Nodes i).Refs 0)).Ups hf2 (up_in (hup hL)) a hok; have hl1 := hl.1; have hC : capUps (nth fs (nth (nth (nth fs fi).Nodes i).Refs 0)).Ups a = iter (fun (j : Int) (a : List Bool) => gCap (nth fs (nth (nth (nth fs fi).Nodes i).Refs 0)).Ups j a) (((nth fs (nth (nth (nth fs fi).Nodes i).Refs 0)).Ups.length : Int) - 0).toNat 0 a := rfl; rw [← hC] at hl1 hl; simp only [unit, fns, nodes, ups, bl, Node.cells, ints, hL] at hl1
      refine ⟨⟨_, by simp -implicitDefEqProofs +contextual (disch := omega) only [ub_spec_l8captured_0, rr_spec_l8captured, ↓XD, XU, ↓reduceIte, sevalprocAttr, unit, fns, bl, nodes, ups, Fn.cells, strs, Node.cells, ints, gNode, hr2, hl1, hL, hn, hok]; rfl, by first | (simp [St.next, trim_all, gNode, hL]; done) | (simp [St.next, trim_all, gNode, hL]; omega) | (simp [St.next, trim, bare, refsL, refs, gNode, hL]; done)⟩, by simp only [gNode, hL, if_true, if_false]; first | exact hl.2 | exact hok⟩
    · have hl1 : True := trivial; have hl : True ∧ True := ⟨trivial, trivial⟩; have hr2 : True := trivial
      refine ⟨⟨_, by simp -implicitDefEqProofs +contextual (disch := omega) only [ub_spec_l8captured_0, rr_spec_l8captured, ↓XD, XU, ↓reduceIte, sevalprocAttr, unit, fns, bl, nodes, ups, Fn.cells, strs, Node.cells, ints, gNode, hr2, hl1, hL, hn, hok]; rfl, by first | (simp [St.next, trim_all, gNode, hL]; done) | (simp [St.next, trim_all, gNode, hL]; omega) | (simp [St.next, trim, bare, refsL, refs, gNode, hL]; done)⟩, by simp only [gNode, hL, if_true, if_false]; first | exact hl.2 | exact hok⟩
  · rintro i a hi rfl hok
    refine ⟨by simp -implicitDefEqProofs +contextual (disch := omega) only [ub_spec_l8captured_0, rr_spec_l8captured, ↓XD, XU, ↓reduceIte, sevalprocAttr, unit, fns, bl, nodes, ups, Fn.cells, strs, Node.cells, ints, gNode, Int.lt_irrefl, hok], by simp⟩
theorem capt_is (fs : List Fn) (f : Int) : capt fs f = iter (fun (n : Int) (a : List Bool) => gNode fs f n a) (((nth fs f).Nodes.length : Int) - 0).toNat 0 (List.replicate (nth fs f).Vars.length false) := rfl
theorem ep_l8captured (fs : List Fn) (fi : Int) (hb : fs.length ≤ 1048576) (f0 : 0 ≤ fi) (f1 : fi < fs.length) (h : Sound fs) : EP A n_spec_l8captured [unit fs, .int .i64 fi] = some (.fz (bl (capt fs fi))) := by
  have hf := h.fn fi f0 f1
  have hv := hf.hv
  have hn := hf.hg.hb
  have hl := lc_s0 fs fi hb f0 f1 h (List.replicate (nth fs fi).Vars.length false) (by simp)
  rw [← capt_is] at hl
  obtain ⟨hl, hlen⟩ := hl
  simp only [unit, fns, nodes, bl] at hl
  simp -implicitDefEqProofs +contextual (disch := omega) only [e_spec_l8captured, u_spec_l8captured, rr_spec_l8captured, unit, fns, Fn.cells, strs, ups, nodes, ↓XD, XU, ↓reduceIte, sevalprocAttr, hl, hlen]
theorem lc_i1 (fs : List Fn) (f : Fn) (fi n : Int) (nd : Node) (us : List Up) (hu : us.length ≤ 1048576) (hx : ∀ j : Int, 0 ≤ j → j < us.length → (nth us j).Local = true → 0 ≤ (nth us j).Index ∧ (nth us j).Index < f.Vars.length) (a0 : List Bool) (hok0 : a0.length = f.Vars.length) : EV A (.loop (B_impl_captured 1)) (⟨[(0, unit fs), (1, .int .i64 fi), (2, .ptr 0 0 0 1), (4, .nils), (5, .ptr 1 0 0 1), (6, .sl 2 0 f.Vars.length f.Vars.length), (21, nodes f.Nodes), (22, .int .i64 f.Nodes.length), (23, .int .i64 n), (8, .ptr 3 0 0 1), (38, ups us), (39, .int .i64 us.length), (40, .int .i64 (0))], [], [.cells 1 [[fns fs]], .cells 7 [f.cells], .cells 1 (bl a0), .cells 8 [nd.cells]], []⟩ : St) = some (AExit.exit 2, (⟨[(0, unit fs), (1, .int .i64 fi), (2, .ptr 0 0 0 1), (4, .nils), (5, .ptr 1 0 0 1), (6, .sl 2 0 f.Vars.length f.Vars.length), (21, nodes f.Nodes), (22, .int .i64 f.Nodes.length), (23, .int .i64 n), (8, .ptr 3 0 0 1), (38, ups us), (39, .int .i64 us.length), (40, .int .i64 (us.length))], [], [.cells 1 [[fns fs]], .cells 7 [f.cells], .cells 1 (bl (iter (fun (i : Int) (a : List Bool) => gCap us i a) ((us.length : Int) - 0).toNat (0) a0)), .cells 8 [nd.cells]], []⟩ : St)) ∧ (iter (fun (i : Int) (a : List Bool) => gCap us i a) ((us.length : Int) - 0).toNat (0) a0).length = f.Vars.length := by
  refine loop_iter (fun i (a : List Bool) => (⟨[(0, unit fs), (1, .int .i64 fi), (2, .ptr 0 0 0 1), (4, .nils), (5, .ptr 1 0 0 1), (6, .sl 2 0 f.Vars.length f.Vars.length), (21, nodes f.Nodes), (22, .int .i64 f.Nodes.length), (23, .int .i64 n), (8, .ptr 3 0 0 1), (38, ups us), (39, .int .i64 us.length), (40, .int .i64 i)], [], [.cells 1 [[fns fs]], .cells 7 [f.cells], .cells 1 (bl a), .cells 8 [nd.cells]], []⟩ : St)) (fun (i : Int) (a : List Bool) => gCap us i a) (fun i (a : List Bool) => a.length = f.Vars.length) (fun a => (AExit.exit 2, (⟨[(0, unit fs), (1, .int .i64 fi), (2, .ptr 0 0 0 1), (4, .nils), (5, .ptr 1 0 0 1), (6, .sl 2 0 f.Vars.length f.Vars.length), (21, nodes f.Nodes), (22, .int .i64 f.Nodes.length), (23, .int .i64 n), (8, .ptr 3 0 0 1), (38, ups us), (39, .int .i64 us.length), (40, .int .i64 (us.length))], [], [.cells 1 [[fns fs]], .cells 7 [f.cells], .cells 1 (bl a), .cells 8 [nd.cells]], []⟩ : St))) (0) (us.length) ?_ ?_ (0) a0 (by omega) (by omega) hok0
  · intro i a hi hn hok
    have hx1 := hx i hi hn
    by_cases hL : (nth us i).Local = true
    · have hx2 := hx1 hL
      refine ⟨⟨_, by simp -implicitDefEqProofs +contextual (disch := omega) only [ub_impl_captured_1, rr_impl_captured, ↓XD, XU, ↓reduceIte, sevalprocAttr, unit, fns, bl, nodes, ups, strs, Fn.cells, Up.cells, Node.cells, ints, gCap, hL, hn, hok]; rfl, by first | (simp [St.next, trim_all, gCap, bl, hL]; done) | (simp [St.next, trim_all, gCap, bl, hL]; omega) | (simp [St.next, trim, bare, refsL, refs, gCap, bl, hL]; done)⟩, by simp only [gCap]; split <;> simpa using hok⟩
    · refine ⟨⟨_, by simp -implicitDefEqProofs +contextual (disch := omega) only [ub_impl_captured_1, rr_impl_captured, ↓XD, XU, ↓reduceIte, sevalprocAttr, unit, fns, bl, nodes, ups, strs, Fn.cells, Up.cells, Node.cells, ints, gCap, hL, hn, hok]; rfl, by first | (simp [St.next, trim_all, gCap, bl, hL]; done) | (simp [St.next, trim_all, gCap, bl, hL]; omega) | (simp [St.next, trim, bare, refsL, refs, gCap, bl, hL]; done)⟩, by simp only [gCap]; split <;> simpa using hok⟩
  · rintro i a hi rfl hok
    refine ⟨by simp -implicitDefEqProofs +contextual (disch := omega) only [ub_impl_captured_1, rr_impl_captured, ↓XD, XU, ↓reduceIte, sevalprocAttr, unit, fns, bl, nodes, ups, strs, Fn.cells, Up.cells, Node.cells, ints, gCap, Int.lt_irrefl, hok], by simp⟩
theorem lc_i0 (fs : List Fn) (fi : Int) (hb : fs.length ≤ 1048576) (f0 : 0 ≤ fi) (f1 : fi < fs.length) (h : Sound fs) (a0 : List Bool) (hok0 : a0.length = (nth fs fi).Vars.length) : EV A (.loop (B_impl_captured 0)) (⟨[(0, unit fs), (1, .int .i64 fi), (2, .ptr 0 0 0 1), (4, .nils), (5, .ptr 1 0 0 1), (6, .sl 2 0 (nth fs fi).Vars.length (nth fs fi).Vars.length), (21, nodes (nth fs fi).Nodes), (22, .int .i64 (nth fs fi).Nodes.length), (23, .int .i64 (0))], [], [.cells 1 [[fns fs]], .cells 7 [(nth fs fi).cells], .cells 1 (bl a0)], []⟩ : St) = some (AExit.exit 0, (⟨[(0, unit fs), (1, .int .i64 fi), (2, .ptr 0 0 0 1), (4, .nils), (5, .ptr 1 0 0 1), (6, .sl 2 0 (nth fs fi).Vars.length (nth fs fi).Vars.length), (21, nodes (nth fs fi).Nodes), (22, .int .i64 (nth fs fi).Nodes.length), (23, .int .i64 ((nth fs fi).Nodes.length))], [], [.cells 1 [[fns fs]], .cells 7 [(nth fs fi).cells], .cells 1 (bl (iter (fun (i : Int) (a : List Bool) => gNode fs fi i a) (((nth fs fi).Nodes.length : Int) - 0).toNat (0) a0))], []⟩ : St)) ∧ (iter (fun (i : Int) (a : List Bool) => gNode fs fi i a) (((nth fs fi).Nodes.length : Int) - 0).toNat (0) a0).length = (nth fs fi).Vars.length := by
  refine loop_iter (fun i (a : List Bool) => (⟨[(0, unit fs), (1, .int .i64 fi), (2, .ptr 0 0 0 1), (4, .nils), (5, .ptr 1 0 0 1), (6, .sl 2 0 (nth fs fi).Vars.length (nth fs fi).Vars.length), (21, nodes (nth fs fi).Nodes), (22, .int .i64 (nth fs fi).Nodes.length), (23, .int .i64 i)], [], [.cells 1 [[fns fs]], .cells 7 [(nth fs fi).cells], .cells 1 (bl a)], []⟩ : St)) (fun (i : Int) (a : List Bool) => gNode fs fi i a) (fun i (a : List Bool) => a.length = (nth fs fi).Vars.length) (fun a => (AExit.exit 0, (⟨[(0, unit fs), (1, .int .i64 fi), (2, .ptr 0 0 0 1), (4, .nils), (5, .ptr 1 0 0 1), (6, .sl 2 0 (nth fs fi).Vars.length (nth fs fi).Vars.length), (21, nodes (nth fs fi).Nodes), (22, .int .i64 (nth fs fi).Nodes.length), (23, .int .i64 ((nth fs fi).Nodes.length))], [], [.cells 1 [[fns fs]], .cells 7 [(nth fs fi).cells], .cells 1 (bl a)], []⟩ : St))) (0) ((nth fs fi).Nodes.length) ?_ ?_ (0) a0 (by omega) (by omega) hok0
  · intro i a hi hn hok
    have hf := h.fn fi f0 f1; have hb2 := hf.hg.hb; have hr1 := hf.hr i hi hn; have hg := h.refs fi f0 f1 i hi hn; have hup := h.ups fi f0 f1 i hi hn
    by_cases hL : (nth (nth fs fi).Nodes i).Kind = 36
    · have hr2 := hr1 (.inr (.inr hL)); have hg2 := hg hL; have hf2 := (h.fn _ hg2.1 hg2.2).hu; have hl := lc_i1 fs (nth fs fi) fi i (nth (nth fs fi).Nodes i) (nth fs (nth (nth (nth fs fi).Nodes i).Refs 0)).Ups hf2 (up_in (hup hL)) a hok; have hl1 := hl.1; have hC : capUps (nth fs (nth (nth (nth fs fi).Nodes i).Refs 0)).Ups a = iter (fun (j : Int) (a : List Bool) => gCap (nth fs (nth (nth (nth fs fi).Nodes i).Refs 0)).Ups j a) (((nth fs (nth (nth (nth fs fi).Nodes i).Refs 0)).Ups.length : Int) - 0).toNat 0 a := rfl; rw [← hC] at hl1 hl; simp only [unit, fns, nodes, ups, strs, bl, Fn.cells, Node.cells, ints, hL] at hl1
      refine ⟨⟨_, by simp -implicitDefEqProofs +contextual (disch := omega) only [ub_impl_captured_0, rr_impl_captured, ↓XD, XU, ↓reduceIte, sevalprocAttr, unit, fns, bl, nodes, ups, Fn.cells, strs, Node.cells, ints, gNode, hr2, hl1, hL, hn, hok]; rfl, by first | (simp [St.next, trim_all, gNode, hL]; done) | (simp [St.next, trim_all, gNode, hL]; omega) | (simp [St.next, trim, bare, refsL, refs, gNode, hL]; done)⟩, by simp only [gNode, hL, if_true, if_false]; first | exact hl.2 | exact hok⟩
    · have hl1 : True := trivial; have hl : True ∧ True := ⟨trivial, trivial⟩; have hr2 : True := trivial
      refine ⟨⟨_, by simp -implicitDefEqProofs +contextual (disch := omega) only [ub_impl_captured_0, rr_impl_captured, ↓XD, XU, ↓reduceIte, sevalprocAttr, unit, fns, bl, nodes, ups, Fn.cells, strs, Node.cells, ints, gNode, hr2, hl1, hL, hn, hok]; rfl, by first | (simp [St.next, trim_all, gNode, hL]; done) | (simp [St.next, trim_all, gNode, hL]; omega) | (simp [St.next, trim, bare, refsL, refs, gNode, hL]; done)⟩, by simp only [gNode, hL, if_true, if_false]; first | exact hl.2 | exact hok⟩
  · rintro i a hi rfl hok
    refine ⟨by simp -implicitDefEqProofs +contextual (disch := omega) only [ub_impl_captured_0, rr_impl_captured, ↓XD, XU, ↓reduceIte, sevalprocAttr, unit, fns, bl, nodes, ups, Fn.cells, strs, Node.cells, ints, gNode, Int.lt_irrefl, hok], by simp⟩
theorem es_captured (fs : List Fn) (fi : Int) (hb : fs.length ≤ 1048576) (f0 : 0 ≤ fi) (f1 : fi < fs.length) (h : Sound fs) : ES A n_impl_captured [unit fs, .int .i64 fi] [] = some (.sl 2 0 (nth fs fi).Vars.length (nth fs fi).Vars.length, [.cells 1 [[fns fs]], .cells 7 [(nth fs fi).cells], .cells 1 (bl (capt fs fi))], []) ∧ (capt fs fi).length = (nth fs fi).Vars.length := by
  have hf := h.fn fi f0 f1
  have hv := hf.hv
  have hn := hf.hg.hb
  have hl := lc_i0 fs fi hb f0 f1 h (List.replicate (nth fs fi).Vars.length false) (by simp)
  rw [← capt_is] at hl
  obtain ⟨hl, hlen⟩ := hl
  refine ⟨?_, hlen⟩
  simp only [unit, fns, nodes, bl, Fn.cells, strs, ups] at hl
  simp -implicitDefEqProofs +contextual (disch := omega) only [s_impl_captured, u_impl_captured, rr_impl_captured, unit, fns, Fn.cells, strs, ups, nodes, ↓XD, XU, ↓reduceIte, sevalprocAttr, hl, hlen]
  simp [trim, bare, refsL, refs]
def digits : Nat → Int → ByteArray → ByteArray
  | 0, _, s => s
  | m + 1, k, s => if 0 < k then digits m (IntKind.i64.wrap (k.tdiv 10)) (⟨#[UInt8.ofNat (IntKind.u8.wrap (IntKind.i64.wrap (48 + k.tmod 10))).toNat]⟩ ++ s) else s
def digEnd : Nat → Int → Int
  | 0, k => k
  | m + 1, k => if 0 < k then digEnd m (IntKind.i64.wrap (k.tdiv 10)) else k
theorem bstr_one (b : Int) : bstrV [.cells 1 [[.int .u8 b]]] (.sl 0 0 1 1) = some (.str ⟨#[UInt8.ofNat b.toNat]⟩) := rfl
theorem bin_sadd (x y : ByteArray) (h : x.size + y.size ≤ 4294967296) : Av.bin .add (.str x) (.str y) = some (.str (x ++ y)) := by simp [Av.bin, binStr, h]
theorem size_one (b : UInt8) (s : ByteArray) : ((⟨#[b]⟩ : ByteArray) ++ s).size = s.size + 1 := by
  rw [ByteArray.size_append]; show 1 + s.size = s.size + 1; omega
theorem tdiv_lt {m : Nat} {k : Int} (h0 : 0 < k) (h : k < 10 ^ (m + 1)) : 0 ≤ k.tdiv 10 ∧ k.tdiv 10 < 10 ^ m := by
  rw [Int.tdiv_eq_ediv_of_nonneg (by omega)]
  have : (10 : Int) ^ (m + 1) = 10 ^ m * 10 := by rw [Int.pow_succ]
  omega
theorem lp_text : ∀ (m : Nat) (k : Int) (s : ByteArray), 0 ≤ k → k < 10 ^ m → k < 9223372036854775808 → s.size + m ≤ 1000 → EV A (.loop (B_laws_markText 0)) (⟨[(0, .int .i64 k), (2, .str ⟨#[]⟩), (3, .str s)], [], [], []⟩ : St) = some (AExit.exit 0, (⟨[(0, .int .i64 (digEnd m k)), (2, .str ⟨#[]⟩), (3, .str (digits m k s))], [], [], []⟩ : St)) := by
  intro m
  induction m with
  | zero =>
    intro k s h0 h1 h2 h3
    have hk : ¬0 < k := by simp at h1; omega
    rw [EV_loop]
    simp -implicitDefEqProofs +contextual (disch := omega) only [ub_laws_markText_0, rr_laws_markText, ↓XD, XU, ↓reduceIte, sevalprocAttr, hk]
    simp [digEnd, digits]
  | succ m ih =>
    intro k s h0 h1 h2 h3
    rw [EV_loop]
    by_cases hk : 0 < k
    · have h4 := tdiv_lt hk h1
      have h5 : IntKind.i64.wrap (k.tdiv 10) = k.tdiv 10 := by
        rw [Int.tdiv_eq_ediv_of_nonneg (by omega)] at h4 ⊢
        exact wrap64 (by omega) (by omega)
      have h6 : k.tdiv 10 < 9223372036854775808 := by rw [Int.tdiv_eq_ediv_of_nonneg (by omega)]; omega
      have hs : (1 : Nat) + s.size ≤ 4294967296 := by omega
      have hb := bin_sadd ⟨#[UInt8.ofNat (IntKind.u8.wrap (IntKind.i64.wrap (48 + k.tmod 10))).toNat]⟩ s (by show 1 + s.size ≤ _; omega)
      have hi := ih (k.tdiv 10) (⟨#[UInt8.ofNat (IntKind.u8.wrap (IntKind.i64.wrap (48 + k.tmod 10))).toNat]⟩ ++ s) h4.1 h4.2 h6 (by rw [size_one]; omega)
      simp -implicitDefEqProofs +contextual (disch := omega) only [ub_laws_markText_0, rr_laws_markText, bstr_one, fillRows, ↓XD, XU, ↓reduceIte, sevalprocAttr, hk, hb]
      simp only [digEnd, digits, if_pos hk, h5]
      simp [St.next, trim, bare, refsL, refs]
      exact hi
    · simp -implicitDefEqProofs +contextual (disch := omega) only [ub_laws_markText_0, rr_laws_markText, ↓XD, XU, ↓reduceIte, sevalprocAttr, hk]
      simp [digEnd, digits, hk]
theorem digits_size : ∀ (m : Nat) (k : Int) (s : ByteArray), (digits m k s).size ≤ s.size + m
  | 0, _, s => Nat.le_refl _
  | m + 1, k, s => by
    simp only [digits]
    split
    · have := digits_size m (IntKind.i64.wrap (k.tdiv 10)) (⟨#[UInt8.ofNat (IntKind.u8.wrap (IntKind.i64.wrap (48 + k.tmod 10))).toNat]⟩ ++ s)
      rw [size_one] at this
      omega
    · omega
def mtext (k : Int) : ByteArray := if k ≤ 0 then ⟨#[109, 48]⟩ else ⟨#[109]⟩ ++ digits 19 k ⟨#[]⟩
theorem el_markText (k : Int) (h : k < 9223372036854775808) : EP A n_laws_markText [.int .i64 k] = some (.str (mtext k)) := by
  by_cases hk : k ≤ 0
  · simp -implicitDefEqProofs +contextual (disch := omega) only [e_laws_markText, u_laws_markText, rr_laws_markText, mtext, ↓XD, XU, ↓reduceIte, sevalprocAttr, hk]
  · have hl := lp_text 19 k ⟨#[]⟩ (by omega) (by omega) h (by decide)
    have hd := digits_size 19 k ⟨#[]⟩
    have hz : (⟨#[]⟩ : ByteArray).size = 0 := rfl
    have hb := bin_sadd ⟨#[109]⟩ (digits 19 k ⟨#[]⟩) (by show 1 + (digits 19 k ⟨#[]⟩).size ≤ _; omega)
    simp -implicitDefEqProofs +contextual (disch := omega) only [e_laws_markText, u_laws_markText, rr_laws_markText, mtext, ↓XD, XU, ↓reduceIte, sevalprocAttr, hk, hl, hb]
theorem idxS_set (sz off len tot id : Nat) (n : Int) (s i : Nat) (rows : List (List PV)) (r : List PV) : idxS sz off len tot id n (some (.cells s (rows.set i r))) = idxS sz off len tot id n (some (.cells s rows)) := by
  simp only [idxS, List.length_set]
theorem drop_get {α : Type} {l : List α} {i : Nat} {x : α} (h : l[i]? = some x) : (l.drop i).head? = some x := by
  rw [List.head?_drop, h]
abbrev sh_IntS : List Sh := [.int .i64]
theorem row_IntS {H : Heap} {R : Nat → Prop} {r : List PV} (h : WTs H R sh_IntS r) : ∃ x0, r = [.int .i64 x0] := by
  simp only [sh_IntS, WTs, WT] at h
  obtain ⟨_, _, rfl, ⟨x0, rfl⟩, h⟩ := h
  subst h
  exact ⟨x0, rfl⟩
theorem lm_IntS (R : Nat → Prop) (H : Heap) (id n : Nat) (k0 : Int) (hw : WT H R (.slice sh_IntS) (.sl id 0 n n)) (hn : n ≤ 1048576) (hid : R id) (h0 : 0 ≤ k0) (hk : k0 + 1048576 * 1 ≤ 4611686018427387904) :
    ∃ a' : Int × Heap, EV A (.loop (B_laws_markIntS 0)) (⟨[(0, .sl id 0 n n), (1, .int .i64 k0), (4, .int .i64 0), (5, .int .i64 0)], [], H, []⟩ : St) = some (AExit.exit 0, (⟨[(0, .sl id 0 n n), (1, .int .i64 a'.1), (4, .int .i64 0), (5, .int .i64 n)], [], a'.2, []⟩ : St)) ∧ KinH H a'.2 ∧ (∀ j, ¬R j → a'.2[j]? = H[j]?) ∧ k0 ≤ a'.1 ∧ a'.1 ≤ k0 + n * 1 := by
  refine loop_rel (P := A) (body := B_laws_markIntS 0) (fun (i : Int) (a : Int × Heap) => (⟨[(0, .sl id 0 n n), (1, .int .i64 a.1), (4, .int .i64 0), (5, .int .i64 i)], [], a.2, []⟩ : St)) (fun i a => KinH H a.2 ∧ (∀ j, ¬R j → a.2[j]? = H[j]?) ∧ k0 ≤ a.1 ∧ a.1 ≤ k0 + i * 1) (fun a => (AExit.exit 0, (⟨[(0, .sl id 0 n n), (1, .int .i64 a.1), (4, .int .i64 0), (5, .int .i64 n)], [], a.2, []⟩ : St))) 0 n ?_ ?_ 0 (k0, H) (by omega) (by omega) ⟨.refl H, fun _ _ => rfl, by simp, by simp⟩
  · rintro i ⟨k, G⟩ hi hin ⟨hK, hF, hk1, hk2⟩
    dsimp only at hK hF hk1 hk2 ⊢
    have hwG := WT.kin hK hw (.same _)
    simp only [WT] at hwG
    obtain ⟨id', n', rows, e, _, hG, hl, _, hrows⟩ := hwG
    cases e
    have hi2 : i.toNat < rows.length := by omega
    have hr := List.getElem?_eq_getElem hi2
    obtain ⟨x0, er⟩ := row_IntS (hrows _ (List.getElem_mem hi2))
    rw [er] at hr
    have hlt : id < G.length := (List.getElem?_eq_some_iff.1 hG).1
    have q2 : ∀ b, (G.set id b)[id]? = some b := fun b => List.getElem?_set_self hlt
    have q6 : ∀ r, (rows.set i.toNat r)[i.toNat]? = some r := fun r => List.getElem?_set_self hi2
    have c1 : KinH G (G.set id (.cells 1 (rows.set i.toNat [.int .i64 (k)]))) := KinH.set hG hr (KinL.cons (.int ..) (KinL.nil))
    have f1 : ∀ j, ¬R j → (G.set id (.cells 1 (rows.set i.toNat [.int .i64 (k)])))[j]? = H[j]? := fun j hj => by rw [List.getElem?_set_ne (fun (e : id = j) => hj (by rw [← e]; exact hid))]; exact hF j hj
    refine ⟨_, (k + 1, (G.set id (.cells 1 (rows.set i.toNat [.int .i64 (k)])))), by (simp -implicitDefEqProofs +contextual (disch := omega) only [ub_laws_markIntS_0, rr_laws_markIntS, ↓XD, XU, ↓reduceIte, sevalprocAttr, hin, hG, hr, hl, q2, q6, idxS_set, List.length_set, List.set_set]) <;> rfl, ?_, KinH.trans hK c1, f1, by dsimp only; omega, by dsimp only; rw [Int.add_mul]; omega⟩
    simp only [St.next]
    rw [trim_len0 _ _ _ (by simp)]
    rfl
  · rintro i ⟨k, G⟩ hi rfl hok
    refine ⟨by simp -implicitDefEqProofs +contextual (disch := omega) only [ub_laws_markIntS_0, rr_laws_markIntS, ↓XD, XU, ↓reduceIte, sevalprocAttr, Int.lt_irrefl], by simp⟩
theorem mk_IntS : MarkOk A n_laws_markIntS sh_IntS 1 := by
  intro R H p k hw h0 hk
  have hw' := hw
  simp only [WT] at hw'
  obtain ⟨id, n, rows, rfl, hid, _, _, hn, _⟩ := hw'
  obtain ⟨⟨k', H'⟩, e, h1, h2, h3, h4⟩ := lm_IntS R H id n k hw hn hid h0 hk
  have hlen := h1.1
  dsimp only at e h1 h2 h3 h4 hlen
  refine ⟨k', H', ?_, h1, h2, h3, by omega⟩
  simp -implicitDefEqProofs +contextual (disch := omega) only [s_laws_markIntS, u_laws_markIntS, rr_laws_markIntS, ↓XD, XU, ↓reduceIte, sevalprocAttr, e]
  rw [trim_len0 _ _ _ hlen.symm]
  try rfl
abbrev sh_StringS : List Sh := [.str]
theorem row_StringS {H : Heap} {R : Nat → Prop} {r : List PV} (h : WTs H R sh_StringS r) : ∃ x0, r = [.str x0] := by
  simp only [sh_StringS, WTs, WT] at h
  obtain ⟨_, _, rfl, ⟨x0, rfl⟩, h⟩ := h
  subst h
  exact ⟨x0, rfl⟩
theorem lm_StringS (R : Nat → Prop) (H : Heap) (id n : Nat) (k0 : Int) (hw : WT H R (.slice sh_StringS) (.sl id 0 n n)) (hn : n ≤ 1048576) (hid : R id) (h0 : 0 ≤ k0) (hk : k0 + 1048576 * 1 ≤ 4611686018427387904) :
    ∃ a' : Int × Heap, EV A (.loop (B_laws_markStringS 0)) (⟨[(0, .sl id 0 n n), (1, .int .i64 k0), (4, .int .i64 0), (5, .int .i64 0)], [], H, []⟩ : St) = some (AExit.exit 0, (⟨[(0, .sl id 0 n n), (1, .int .i64 a'.1), (4, .int .i64 0), (5, .int .i64 n)], [], a'.2, []⟩ : St)) ∧ KinH H a'.2 ∧ (∀ j, ¬R j → a'.2[j]? = H[j]?) ∧ k0 ≤ a'.1 ∧ a'.1 ≤ k0 + n * 1 := by
  refine loop_rel (P := A) (body := B_laws_markStringS 0) (fun (i : Int) (a : Int × Heap) => (⟨[(0, .sl id 0 n n), (1, .int .i64 a.1), (4, .int .i64 0), (5, .int .i64 i)], [], a.2, []⟩ : St)) (fun i a => KinH H a.2 ∧ (∀ j, ¬R j → a.2[j]? = H[j]?) ∧ k0 ≤ a.1 ∧ a.1 ≤ k0 + i * 1) (fun a => (AExit.exit 0, (⟨[(0, .sl id 0 n n), (1, .int .i64 a.1), (4, .int .i64 0), (5, .int .i64 n)], [], a.2, []⟩ : St))) 0 n ?_ ?_ 0 (k0, H) (by omega) (by omega) ⟨.refl H, fun _ _ => rfl, by simp, by simp⟩
  · rintro i ⟨k, G⟩ hi hin ⟨hK, hF, hk1, hk2⟩
    dsimp only at hK hF hk1 hk2 ⊢
    have hwG := WT.kin hK hw (.same _)
    simp only [WT] at hwG
    obtain ⟨id', n', rows, e, _, hG, hl, _, hrows⟩ := hwG
    cases e
    have hi2 : i.toNat < rows.length := by omega
    have hr := List.getElem?_eq_getElem hi2
    obtain ⟨x0, er⟩ := row_StringS (hrows _ (List.getElem_mem hi2))
    rw [er] at hr
    have hlt : id < G.length := (List.getElem?_eq_some_iff.1 hG).1
    have q2 : ∀ b, (G.set id b)[id]? = some b := fun b => List.getElem?_set_self hlt
    have q6 : ∀ r, (rows.set i.toNat r)[i.toNat]? = some r := fun r => List.getElem?_set_self hi2
    have t0 := el_markText (k) (by omega)
    have c1 : KinH G (G.set id (.cells 1 (rows.set i.toNat [.str (mtext (k))]))) := KinH.set hG hr (KinL.cons (.str ..) (KinL.nil))
    have f1 : ∀ j, ¬R j → (G.set id (.cells 1 (rows.set i.toNat [.str (mtext (k))])))[j]? = H[j]? := fun j hj => by rw [List.getElem?_set_ne (fun (e : id = j) => hj (by rw [← e]; exact hid))]; exact hF j hj
    refine ⟨_, (k + 1, (G.set id (.cells 1 (rows.set i.toNat [.str (mtext (k))])))), by (simp -implicitDefEqProofs +contextual (disch := omega) only [ub_laws_markStringS_0, rr_laws_markStringS, ↓XD, XU, ↓reduceIte, sevalprocAttr, hin, hG, hr, hl, q2, q6, idxS_set, List.length_set, List.set_set, t0]) <;> rfl, ?_, KinH.trans hK c1, f1, by dsimp only; omega, by dsimp only; rw [Int.add_mul]; omega⟩
    simp only [St.next]
    rw [trim_len0 _ _ _ (by simp)]
    rfl
  · rintro i ⟨k, G⟩ hi rfl hok
    refine ⟨by simp -implicitDefEqProofs +contextual (disch := omega) only [ub_laws_markStringS_0, rr_laws_markStringS, ↓XD, XU, ↓reduceIte, sevalprocAttr, Int.lt_irrefl], by simp⟩
theorem mk_StringS : MarkOk A n_laws_markStringS sh_StringS 1 := by
  intro R H p k hw h0 hk
  have hw' := hw
  simp only [WT] at hw'
  obtain ⟨id, n, rows, rfl, hid, _, _, hn, _⟩ := hw'
  obtain ⟨⟨k', H'⟩, e, h1, h2, h3, h4⟩ := lm_StringS R H id n k hw hn hid h0 hk
  have hlen := h1.1
  dsimp only at e h1 h2 h3 h4 hlen
  refine ⟨k', H', ?_, h1, h2, h3, by omega⟩
  simp -implicitDefEqProofs +contextual (disch := omega) only [s_laws_markStringS, u_laws_markStringS, rr_laws_markStringS, ↓XD, XU, ↓reduceIte, sevalprocAttr, e]
  rw [trim_len0 _ _ _ hlen.symm]
  try rfl
abbrev sh_UpS : List Sh := [.bool, .int .i64]
theorem row_UpS {H : Heap} {R : Nat → Prop} {r : List PV} (h : WTs H R sh_UpS r) : ∃ x0 x1, r = [.bool x0, .int .i64 x1] := by
  simp only [sh_UpS, WTs, WT] at h
  obtain ⟨_, _, rfl, ⟨x0, rfl⟩, h⟩ := h
  obtain ⟨_, _, rfl, ⟨x1, rfl⟩, h⟩ := h
  subst h
  exact ⟨x0, x1, rfl⟩
theorem lm_UpS (R : Nat → Prop) (H : Heap) (id n : Nat) (k0 : Int) (hw : WT H R (.slice sh_UpS) (.sl id 0 n n)) (hn : n ≤ 1048576) (hid : R id) (h0 : 0 ≤ k0) (hk : k0 + 1048576 * 2 ≤ 4611686018427387904) :
    ∃ a' : Int × Heap, EV A (.loop (B_laws_markUpS 0)) (⟨[(0, .sl id 0 n n), (1, .int .i64 k0), (4, .int .i64 0), (5, .int .i64 0)], [], H, []⟩ : St) = some (AExit.exit 0, (⟨[(0, .sl id 0 n n), (1, .int .i64 a'.1), (4, .int .i64 0), (5, .int .i64 n)], [], a'.2, []⟩ : St)) ∧ KinH H a'.2 ∧ (∀ j, ¬R j → a'.2[j]? = H[j]?) ∧ k0 ≤ a'.1 ∧ a'.1 ≤ k0 + n * 2 := by
  refine loop_rel (P := A) (body := B_laws_markUpS 0) (fun (i : Int) (a : Int × Heap) => (⟨[(0, .sl id 0 n n), (1, .int .i64 a.1), (4, .int .i64 0), (5, .int .i64 i)], [], a.2, []⟩ : St)) (fun i a => KinH H a.2 ∧ (∀ j, ¬R j → a.2[j]? = H[j]?) ∧ k0 ≤ a.1 ∧ a.1 ≤ k0 + i * 2) (fun a => (AExit.exit 0, (⟨[(0, .sl id 0 n n), (1, .int .i64 a.1), (4, .int .i64 0), (5, .int .i64 n)], [], a.2, []⟩ : St))) 0 n ?_ ?_ 0 (k0, H) (by omega) (by omega) ⟨.refl H, fun _ _ => rfl, by simp, by simp⟩
  · rintro i ⟨k, G⟩ hi hin ⟨hK, hF, hk1, hk2⟩
    dsimp only at hK hF hk1 hk2 ⊢
    have hwG := WT.kin hK hw (.same _)
    simp only [WT] at hwG
    obtain ⟨id', n', rows, e, _, hG, hl, _, hrows⟩ := hwG
    cases e
    have hi2 : i.toNat < rows.length := by omega
    have hr := List.getElem?_eq_getElem hi2
    obtain ⟨x0, x1, er⟩ := row_UpS (hrows _ (List.getElem_mem hi2))
    rw [er] at hr
    have hlt : id < G.length := (List.getElem?_eq_some_iff.1 hG).1
    have q2 : ∀ b, (G.set id b)[id]? = some b := fun b => List.getElem?_set_self hlt
    have q6 : ∀ r, (rows.set i.toNat r)[i.toNat]? = some r := fun r => List.getElem?_set_self hi2
    have c1 : KinH G (G.set id (.cells 2 (rows.set i.toNat [.bool (decide ((k).tmod 3 = 0)), .int .i64 (k + 1)]))) := KinH.set hG hr (KinL.cons (.bool ..) (KinL.cons (.int ..) (KinL.nil)))
    have f1 : ∀ j, ¬R j → (G.set id (.cells 2 (rows.set i.toNat [.bool (decide ((k).tmod 3 = 0)), .int .i64 (k + 1)])))[j]? = H[j]? := fun j hj => by rw [List.getElem?_set_ne (fun (e : id = j) => hj (by rw [← e]; exact hid))]; exact hF j hj
    refine ⟨_, (k + 1 + 1, (G.set id (.cells 2 (rows.set i.toNat [.bool (decide ((k).tmod 3 = 0)), .int .i64 (k + 1)])))), by (simp -implicitDefEqProofs +contextual (disch := omega) only [ub_laws_markUpS_0, rr_laws_markUpS, ↓XD, XU, ↓reduceIte, sevalprocAttr, hin, hG, hr, hl, q2, q6, idxS_set, List.length_set, List.set_set]) <;> rfl, ?_, KinH.trans hK c1, f1, by dsimp only; omega, by dsimp only; rw [Int.add_mul]; omega⟩
    simp only [St.next]
    rw [trim_len0 _ _ _ (by simp)]
    rfl
  · rintro i ⟨k, G⟩ hi rfl hok
    refine ⟨by simp -implicitDefEqProofs +contextual (disch := omega) only [ub_laws_markUpS_0, rr_laws_markUpS, ↓XD, XU, ↓reduceIte, sevalprocAttr, Int.lt_irrefl], by simp⟩
theorem mk_UpS : MarkOk A n_laws_markUpS sh_UpS 2 := by
  intro R H p k hw h0 hk
  have hw' := hw
  simp only [WT] at hw'
  obtain ⟨id, n, rows, rfl, hid, _, _, hn, _⟩ := hw'
  obtain ⟨⟨k', H'⟩, e, h1, h2, h3, h4⟩ := lm_UpS R H id n k hw hn hid h0 hk
  have hlen := h1.1
  dsimp only at e h1 h2 h3 h4 hlen
  refine ⟨k', H', ?_, h1, h2, h3, by omega⟩
  simp -implicitDefEqProofs +contextual (disch := omega) only [s_laws_markUpS, u_laws_markUpS, rr_laws_markUpS, ↓XD, XU, ↓reduceIte, sevalprocAttr, e]
  rw [trim_len0 _ _ _ hlen.symm]
  try rfl
abbrev sh_NodeS : List Sh := [.int .i64, .int .i64, .int .i64, .int .i64, .flt .f64, .str, .slice sh_IntS, .slice sh_IntS]
theorem row_NodeS {H : Heap} {R : Nat → Prop} {r : List PV} (h : WTs H R sh_NodeS r) : ∃ x0 x1 x2 x3 x4 x5 x6 x7, r = [.int .i64 x0, .int .i64 x1, .int .i64 x2, .int .i64 x3, .flt .f64 x4, .str x5, x6, x7] ∧ WT H R (.slice sh_IntS) x6 ∧ WT H R (.slice sh_IntS) x7 := by
  simp only [sh_NodeS, WTs, WT] at h
  obtain ⟨_, _, rfl, ⟨x0, rfl⟩, h⟩ := h
  obtain ⟨_, _, rfl, ⟨x1, rfl⟩, h⟩ := h
  obtain ⟨_, _, rfl, ⟨x2, rfl⟩, h⟩ := h
  obtain ⟨_, _, rfl, ⟨x3, rfl⟩, h⟩ := h
  obtain ⟨_, _, rfl, ⟨x4, rfl⟩, h⟩ := h
  obtain ⟨_, _, rfl, ⟨x5, rfl⟩, h⟩ := h
  obtain ⟨x6, _, rfl, h6, h⟩ := h
  obtain ⟨x7, _, rfl, h7, h⟩ := h
  subst h
  exact ⟨x0, x1, x2, x3, x4, x5, x6, x7, rfl, h6, h7⟩
theorem lm_NodeS (R : Nat → Prop) (H : Heap) (id n : Nat) (k0 : Int) (hw : WT H R (.slice sh_NodeS) (.sl id 0 n n)) (hn : n ≤ 1048576) (hid : R id) (h0 : 0 ≤ k0) (hk : k0 + 1048576 * 2097158 ≤ 4611686018427387904) :
    ∃ a' : Int × Heap, EV A (.loop (B_laws_markNodeS 0)) (⟨[(0, .sl id 0 n n), (1, .int .i64 k0), (4, .int .i64 0), (5, .int .i64 0)], [], H, []⟩ : St) = some (AExit.exit 0, (⟨[(0, .sl id 0 n n), (1, .int .i64 a'.1), (4, .int .i64 0), (5, .int .i64 n)], [], a'.2, []⟩ : St)) ∧ KinH H a'.2 ∧ (∀ j, ¬R j → a'.2[j]? = H[j]?) ∧ k0 ≤ a'.1 ∧ a'.1 ≤ k0 + n * 2097158 := by
  refine loop_rel (P := A) (body := B_laws_markNodeS 0) (fun (i : Int) (a : Int × Heap) => (⟨[(0, .sl id 0 n n), (1, .int .i64 a.1), (4, .int .i64 0), (5, .int .i64 i)], [], a.2, []⟩ : St)) (fun i a => KinH H a.2 ∧ (∀ j, ¬R j → a.2[j]? = H[j]?) ∧ k0 ≤ a.1 ∧ a.1 ≤ k0 + i * 2097158) (fun a => (AExit.exit 0, (⟨[(0, .sl id 0 n n), (1, .int .i64 a.1), (4, .int .i64 0), (5, .int .i64 n)], [], a.2, []⟩ : St))) 0 n ?_ ?_ 0 (k0, H) (by omega) (by omega) ⟨.refl H, fun _ _ => rfl, by simp, by simp⟩
  · rintro i ⟨k, G⟩ hi hin ⟨hK, hF, hk1, hk2⟩
    dsimp only at hK hF hk1 hk2 ⊢
    have hwG := WT.kin hK hw (.same _)
    simp only [WT] at hwG
    obtain ⟨id', n', rows, e, _, hG, hl, _, hrows⟩ := hwG
    cases e
    have hi2 : i.toNat < rows.length := by omega
    have hr := List.getElem?_eq_getElem hi2
    obtain ⟨x0, x1, x2, x3, x4, x5, x6, x7, er, w6, w7⟩ := row_NodeS (hrows _ (List.getElem_mem hi2))
    rw [er] at hr
    have hlt : id < G.length := (List.getElem?_eq_some_iff.1 hG).1
    have q2 : ∀ b, (G.set id b)[id]? = some b := fun b => List.getElem?_set_self hlt
    have q6 : ∀ r, (rows.set i.toNat r)[i.toNat]? = some r := fun r => List.getElem?_set_self hi2
    have t5 := el_markText (k + 1 + 1 + 1 + 1 + 1) (by omega)
    have c1 : KinH G (G.set id (.cells 8 (rows.set i.toNat [.int .i64 (k), .int .i64 (k + 1), .int .i64 (k + 1 + 1), .int .i64 (k + 1 + 1 + 1), .flt .f64 (FloatKind.f64.nearest (k + 1 + 1 + 1 + 1)), .str (mtext (k + 1 + 1 + 1 + 1 + 1)), x6, x7]))) := KinH.set hG hr (KinL.cons (.int ..) (KinL.cons (.int ..) (KinL.cons (.int ..) (KinL.cons (.int ..) (KinL.cons (.flt ..) (KinL.cons (.str ..) (KinL.cons (.same _) (KinL.cons (.same _) (KinL.nil)))))))))
    have f1 : ∀ j, ¬R j → (G.set id (.cells 8 (rows.set i.toNat [.int .i64 (k), .int .i64 (k + 1), .int .i64 (k + 1 + 1), .int .i64 (k + 1 + 1 + 1), .flt .f64 (FloatKind.f64.nearest (k + 1 + 1 + 1 + 1)), .str (mtext (k + 1 + 1 + 1 + 1 + 1)), x6, x7])))[j]? = H[j]? := fun j hj => by rw [List.getElem?_set_ne (fun (e : id = j) => hj (by rw [← e]; exact hid))]; exact hF j hj
    obtain ⟨k2, G2, e2, c2, g2, l2, u2⟩ := mk_IntS R (G.set id (.cells 8 (rows.set i.toNat [.int .i64 (k), .int .i64 (k + 1), .int .i64 (k + 1 + 1), .int .i64 (k + 1 + 1 + 1), .flt .f64 (FloatKind.f64.nearest (k + 1 + 1 + 1 + 1)), .str (mtext (k + 1 + 1 + 1 + 1 + 1)), x6, x7]))) x6 (k + 1 + 1 + 1 + 1 + 1 + 1) (WT.kin c1 w6 (.same _)) (by omega) (by omega)
    have c2' := KinH.trans c1 c2
    obtain ⟨rows2, hG2, hl2, hr2'⟩ := c2'.at_ hG
    obtain ⟨r2, hr2, kr2⟩ := hr2' _ _ hr
    have hl12 : rows2.length = n := by omega
    have f2 : ∀ j, ¬R j → G2[j]? = H[j]? := fun j hj => (g2 j hj).trans (f1 j hj)
    have s2_7 : r2[7]? = some x7 := by
      have hj : 7 < r2.length := by rw [← kr2.1]; simp
      have e1 := List.getElem?_eq_getElem hj
      rw [e1]
      have e2 := kr2.2 7 x7 _ rfl e1
      obtain ⟨_, _, _, rfl, _⟩ : ∃ a b c, x7 = .sl a 0 b b ∧ c = c := by have := w7; simp only [WT] at this; obtain ⟨a, b, c, e, _⟩ := this; exact ⟨a, b, 0, e, rfl⟩
      generalize r2[7] = y at e2
      cases e2; rfl
    have d2_7 : takeCells false 1 (r2.drop 7) = some x7 := by simp only [takeCells]; exact drop_get s2_7
    obtain ⟨k3, G3, e3, c3, g3, l3, u3⟩ := mk_IntS R G2 x7 (k2) (WT.kin c2' w7 (.same _)) (by omega) (by omega)
    have c3' := KinH.trans c2' c3
    obtain ⟨rows3, hG3, hl3, hr3'⟩ := c3'.at_ hG
    obtain ⟨r3, hr3, kr3⟩ := hr3' _ _ hr
    have hl13 : rows3.length = n := by omega
    have f3 : ∀ j, ¬R j → G3[j]? = H[j]? := fun j hj => (g3 j hj).trans (f2 j hj)
    refine ⟨_, (k3, G3), by (simp -implicitDefEqProofs +contextual (disch := omega) only [ub_laws_markNodeS_0, rr_laws_markNodeS, ↓XD, XU, ↓reduceIte, sevalprocAttr, hin, hG, hr, hl, q2, q6, idxS_set, List.length_set, List.set_set, t5, e2, hG2, hl12, hr2, e3, hG3, hl13, hr3, d2_7]) <;> rfl, ?_, KinH.trans hK c3', f3, by dsimp only; omega, by dsimp only; rw [Int.add_mul]; omega⟩
    simp only [St.next]
    rw [trim_len0 _ _ _ (c3'.1.symm)]
    rfl
  · rintro i ⟨k, G⟩ hi rfl hok
    refine ⟨by simp -implicitDefEqProofs +contextual (disch := omega) only [ub_laws_markNodeS_0, rr_laws_markNodeS, ↓XD, XU, ↓reduceIte, sevalprocAttr, Int.lt_irrefl], by simp⟩
theorem mk_NodeS : MarkOk A n_laws_markNodeS sh_NodeS 2097158 := by
  intro R H p k hw h0 hk
  have hw' := hw
  simp only [WT] at hw'
  obtain ⟨id, n, rows, rfl, hid, _, _, hn, _⟩ := hw'
  obtain ⟨⟨k', H'⟩, e, h1, h2, h3, h4⟩ := lm_NodeS R H id n k hw hn hid h0 hk
  have hlen := h1.1
  dsimp only at e h1 h2 h3 h4 hlen
  refine ⟨k', H', ?_, h1, h2, h3, by omega⟩
  simp -implicitDefEqProofs +contextual (disch := omega) only [s_laws_markNodeS, u_laws_markNodeS, rr_laws_markNodeS, ↓XD, XU, ↓reduceIte, sevalprocAttr, e]
  rw [trim_len0 _ _ _ hlen.symm]
  try rfl
abbrev sh_FnS : List Sh := [.str, .int .i64, .int .i64, .bool, .slice sh_StringS, .slice sh_UpS, .slice sh_NodeS]
theorem row_FnS {H : Heap} {R : Nat → Prop} {r : List PV} (h : WTs H R sh_FnS r) : ∃ x0 x1 x2 x3 x4 x5 x6, r = [.str x0, .int .i64 x1, .int .i64 x2, .bool x3, x4, x5, x6] ∧ WT H R (.slice sh_StringS) x4 ∧ WT H R (.slice sh_UpS) x5 ∧ WT H R (.slice sh_NodeS) x6 := by
  simp only [sh_FnS, WTs, WT] at h
  obtain ⟨_, _, rfl, ⟨x0, rfl⟩, h⟩ := h
  obtain ⟨_, _, rfl, ⟨x1, rfl⟩, h⟩ := h
  obtain ⟨_, _, rfl, ⟨x2, rfl⟩, h⟩ := h
  obtain ⟨_, _, rfl, ⟨x3, rfl⟩, h⟩ := h
  obtain ⟨x4, _, rfl, h4, h⟩ := h
  obtain ⟨x5, _, rfl, h5, h⟩ := h
  obtain ⟨x6, _, rfl, h6, h⟩ := h
  subst h
  exact ⟨x0, x1, x2, x3, x4, x5, x6, rfl, h4, h5, h6⟩
theorem lm_FnS (R : Nat → Prop) (H : Heap) (id n : Nat) (k0 : Int) (hw : WT H R (.slice sh_FnS) (.sl id 0 n n)) (hn : n ≤ 1048576) (hid : R id) (h0 : 0 ≤ k0) (hk : k0 + 1048576 * 2199032692740 ≤ 4611686018427387904) :
    ∃ a' : Int × Heap, EV A (.loop (B_laws_markFnS 0)) (⟨[(0, .sl id 0 n n), (1, .int .i64 k0), (4, .int .i64 0), (5, .int .i64 0)], [], H, []⟩ : St) = some (AExit.exit 0, (⟨[(0, .sl id 0 n n), (1, .int .i64 a'.1), (4, .int .i64 0), (5, .int .i64 n)], [], a'.2, []⟩ : St)) ∧ KinH H a'.2 ∧ (∀ j, ¬R j → a'.2[j]? = H[j]?) ∧ k0 ≤ a'.1 ∧ a'.1 ≤ k0 + n * 2199032692740 := by
  refine loop_rel (P := A) (body := B_laws_markFnS 0) (fun (i : Int) (a : Int × Heap) => (⟨[(0, .sl id 0 n n), (1, .int .i64 a.1), (4, .int .i64 0), (5, .int .i64 i)], [], a.2, []⟩ : St)) (fun i a => KinH H a.2 ∧ (∀ j, ¬R j → a.2[j]? = H[j]?) ∧ k0 ≤ a.1 ∧ a.1 ≤ k0 + i * 2199032692740) (fun a => (AExit.exit 0, (⟨[(0, .sl id 0 n n), (1, .int .i64 a.1), (4, .int .i64 0), (5, .int .i64 n)], [], a.2, []⟩ : St))) 0 n ?_ ?_ 0 (k0, H) (by omega) (by omega) ⟨.refl H, fun _ _ => rfl, by simp, by simp⟩
  · rintro i ⟨k, G⟩ hi hin ⟨hK, hF, hk1, hk2⟩
    dsimp only at hK hF hk1 hk2 ⊢
    have hwG := WT.kin hK hw (.same _)
    simp only [WT] at hwG
    obtain ⟨id', n', rows, e, _, hG, hl, _, hrows⟩ := hwG
    cases e
    have hi2 : i.toNat < rows.length := by omega
    have hr := List.getElem?_eq_getElem hi2
    obtain ⟨x0, x1, x2, x3, x4, x5, x6, er, w4, w5, w6⟩ := row_FnS (hrows _ (List.getElem_mem hi2))
    rw [er] at hr
    have hlt : id < G.length := (List.getElem?_eq_some_iff.1 hG).1
    have q2 : ∀ b, (G.set id b)[id]? = some b := fun b => List.getElem?_set_self hlt
    have q6 : ∀ r, (rows.set i.toNat r)[i.toNat]? = some r := fun r => List.getElem?_set_self hi2
    have t0 := el_markText (k) (by omega)
    have c1 : KinH G (G.set id (.cells 7 (rows.set i.toNat [.str (mtext (k)), .int .i64 (k + 1), .int .i64 (k + 1 + 1), .bool (decide ((k + 1 + 1 + 1).tmod 3 = 0)), x4, x5, x6]))) := KinH.set hG hr (KinL.cons (.str ..) (KinL.cons (.int ..) (KinL.cons (.int ..) (KinL.cons (.bool ..) (KinL.cons (.same _) (KinL.cons (.same _) (KinL.cons (.same _) (KinL.nil))))))))
    have f1 : ∀ j, ¬R j → (G.set id (.cells 7 (rows.set i.toNat [.str (mtext (k)), .int .i64 (k + 1), .int .i64 (k + 1 + 1), .bool (decide ((k + 1 + 1 + 1).tmod 3 = 0)), x4, x5, x6])))[j]? = H[j]? := fun j hj => by rw [List.getElem?_set_ne (fun (e : id = j) => hj (by rw [← e]; exact hid))]; exact hF j hj
    obtain ⟨k2, G2, e2, c2, g2, l2, u2⟩ := mk_StringS R (G.set id (.cells 7 (rows.set i.toNat [.str (mtext (k)), .int .i64 (k + 1), .int .i64 (k + 1 + 1), .bool (decide ((k + 1 + 1 + 1).tmod 3 = 0)), x4, x5, x6]))) x4 (k + 1 + 1 + 1 + 1) (WT.kin c1 w4 (.same _)) (by omega) (by omega)
    have c2' := KinH.trans c1 c2
    obtain ⟨rows2, hG2, hl2, hr2'⟩ := c2'.at_ hG
    obtain ⟨r2, hr2, kr2⟩ := hr2' _ _ hr
    have hl12 : rows2.length = n := by omega
    have f2 : ∀ j, ¬R j → G2[j]? = H[j]? := fun j hj => (g2 j hj).trans (f1 j hj)
    have s2_5 : r2[5]? = some x5 := by
      have hj : 5 < r2.length := by rw [← kr2.1]; simp
      have e1 := List.getElem?_eq_getElem hj
      rw [e1]
      have e2 := kr2.2 5 x5 _ rfl e1
      obtain ⟨_, _, _, rfl, _⟩ : ∃ a b c, x5 = .sl a 0 b b ∧ c = c := by have := w5; simp only [WT] at this; obtain ⟨a, b, c, e, _⟩ := this; exact ⟨a, b, 0, e, rfl⟩
      generalize r2[5] = y at e2
      cases e2; rfl
    have d2_5 : takeCells false 1 (r2.drop 5) = some x5 := by simp only [takeCells]; exact drop_get s2_5
    have s2_6 : r2[6]? = some x6 := by
      have hj : 6 < r2.length := by rw [← kr2.1]; simp
      have e1 := List.getElem?_eq_getElem hj
      rw [e1]
      have e2 := kr2.2 6 x6 _ rfl e1
      obtain ⟨_, _, _, rfl, _⟩ : ∃ a b c, x6 = .sl a 0 b b ∧ c = c := by have := w6; simp only [WT] at this; obtain ⟨a, b, c, e, _⟩ := this; exact ⟨a, b, 0, e, rfl⟩
      generalize r2[6] = y at e2
      cases e2; rfl
    have d2_6 : takeCells false 1 (r2.drop 6) = some x6 := by simp only [takeCells]; exact drop_get s2_6
    obtain ⟨k3, G3, e3, c3, g3, l3, u3⟩ := mk_UpS R G2 x5 (k2) (WT.kin c2' w5 (.same _)) (by omega) (by omega)
    have c3' := KinH.trans c2' c3
    obtain ⟨rows3, hG3, hl3, hr3'⟩ := c3'.at_ hG
    obtain ⟨r3, hr3, kr3⟩ := hr3' _ _ hr
    have hl13 : rows3.length = n := by omega
    have f3 : ∀ j, ¬R j → G3[j]? = H[j]? := fun j hj => (g3 j hj).trans (f2 j hj)
    have s3_6 : r3[6]? = some x6 := by
      have hj : 6 < r3.length := by rw [← kr3.1]; simp
      have e1 := List.getElem?_eq_getElem hj
      rw [e1]
      have e2 := kr3.2 6 x6 _ rfl e1
      obtain ⟨_, _, _, rfl, _⟩ : ∃ a b c, x6 = .sl a 0 b b ∧ c = c := by have := w6; simp only [WT] at this; obtain ⟨a, b, c, e, _⟩ := this; exact ⟨a, b, 0, e, rfl⟩
      generalize r3[6] = y at e2
      cases e2; rfl
    have d3_6 : takeCells false 1 (r3.drop 6) = some x6 := by simp only [takeCells]; exact drop_get s3_6
    obtain ⟨k4, G4, e4, c4, g4, l4, u4⟩ := mk_NodeS R G3 x6 (k3) (WT.kin c3' w6 (.same _)) (by omega) (by omega)
    have c4' := KinH.trans c3' c4
    obtain ⟨rows4, hG4, hl4, hr4'⟩ := c4'.at_ hG
    obtain ⟨r4, hr4, kr4⟩ := hr4' _ _ hr
    have hl14 : rows4.length = n := by omega
    have f4 : ∀ j, ¬R j → G4[j]? = H[j]? := fun j hj => (g4 j hj).trans (f3 j hj)
    refine ⟨_, (k4, G4), by (simp -implicitDefEqProofs +contextual (disch := omega) only [ub_laws_markFnS_0, rr_laws_markFnS, ↓XD, XU, ↓reduceIte, sevalprocAttr, hin, hG, hr, hl, q2, q6, idxS_set, List.length_set, List.set_set, t0, e2, hG2, hl12, hr2, e3, hG3, hl13, hr3, e4, hG4, hl14, hr4, d2_5, d2_6, d3_6]) <;> rfl, ?_, KinH.trans hK c4', f4, by dsimp only; omega, by dsimp only; rw [Int.add_mul]; omega⟩
    simp only [St.next]
    rw [trim_len0 _ _ _ (c4'.1.symm)]
    rfl
  · rintro i ⟨k, G⟩ hi rfl hok
    refine ⟨by simp -implicitDefEqProofs +contextual (disch := omega) only [ub_laws_markFnS_0, rr_laws_markFnS, ↓XD, XU, ↓reduceIte, sevalprocAttr, Int.lt_irrefl], by simp⟩
theorem mk_FnS : MarkOk A n_laws_markFnS sh_FnS 2199032692740 := by
  intro R H p k hw h0 hk
  have hw' := hw
  simp only [WT] at hw'
  obtain ⟨id, n, rows, rfl, hid, _, _, hn, _⟩ := hw'
  obtain ⟨⟨k', H'⟩, e, h1, h2, h3, h4⟩ := lm_FnS R H id n k hw hn hid h0 hk
  have hlen := h1.1
  dsimp only at e h1 h2 h3 h4 hlen
  refine ⟨k', H', ?_, h1, h2, h3, by omega⟩
  simp -implicitDefEqProofs +contextual (disch := omega) only [s_laws_markFnS, u_laws_markFnS, rr_laws_markFnS, ↓XD, XU, ↓reduceIte, sevalprocAttr, e]
  rw [trim_len0 _ _ _ hlen.symm]
  try rfl
def Out (r : Option (PV × Heap × Edges)) (es : List Sh) (k : Nat) (t : PV) : Prop :=
  ∃ (id n : Nat) (X : Heap) (ed : Edges), r = some (.sl id 0 n n, X, ed) ∧ WT X (fun j => j < X.length) (.slice es) (.sl id 0 n n) ∧ ∀ d, k ≤ d → frz d X (.sl id 0 n n) = t
theorem Out.flat {α : Type} {r : Option (PV × Heap × Edges)} (f : α → List PV) (l : List α) (es : List Sh) (hl : l.length ≤ 1048576) (hw : ∀ x X R, WTs X R es (f x)) (hz : ∀ x X d, 1 ≤ d → (f x).map (frz d X) = f x) (h : r = some (.sl 0 0 l.length l.length, [.cells es.length (l.map f)], [])) : Out r es 2 (.fz (l.map f)) := by
  refine ⟨0, l.length, _, [], h, ?_, fun d hd => ?_⟩
  · simp only [WT]
    refine ⟨0, _, l.map f, rfl, by simp, rfl, by simp, hl, fun r hr => ?_⟩
    obtain ⟨x, _, rfl⟩ := List.mem_map.1 hr
    exact hw x _ _
  · obtain ⟨d, rfl⟩ : ∃ d', d = d' + 1 := ⟨d - 1, by omega⟩
    rw [frz_whole d (rows := l.map f) (s := es.length) rfl (by simp), List.map_map]
    congr 1
    exact List.map_congr_left fun x _ => hz x _ d (by omega)
theorem frz_pos {d : Nat} (h : 1 ≤ d) : ∃ d', d = d' + 1 := ⟨d - 1, by omega⟩
theorem es_toIntS (o : Option (List Int)) (hb : (ol o).length ≤ 1048576) : Out (ES A n_laws_toIntS [osl iv o] []) sh_IntS 2 (.fz ((ol o).map iv)) := by
  refine Out.flat iv (ol o) _ hb (fun x X R => by simp [WTs, WT, iv, sh_IntS]) (fun x X d hd => by obtain ⟨d, rfl⟩ := frz_pos hd; rfl) ?_
  have hl := (lp_toInt o hb (List.replicate (ol o).length 0) (by simp)).1
  have e := iter_map (ol o) id 0
  simp only [id_eq, List.map_id] at e
  rw [e] at hl
  simp -implicitDefEqProofs +contextual (disch := omega) only [s_laws_toIntS, u_laws_toIntS, rr_laws_toIntS, lenV_osl, frz_osl, osl_some, iv, ↓XD, XU, ↓reduceIte, sevalprocAttr, hl]
  simp [trim, bare, refsL, refs]
theorem es_toStringS (o : Option (List ByteArray)) (hb : (ol o).length ≤ 1048576) : Out (ES A n_laws_toStringS [osl sv o] []) sh_StringS 2 (.fz ((ol o).map sv)) := by
  refine Out.flat sv (ol o) _ hb (fun x X R => by simp [WTs, WT, sv, sh_StringS]) (fun x X d hd => by obtain ⟨d, rfl⟩ := frz_pos hd; rfl) ?_
  have hl := (lp_toStr o hb (List.replicate (ol o).length ⟨#[]⟩) (by simp)).1
  have e := iter_map (ol o) id ⟨#[]⟩
  simp only [id_eq, List.map_id] at e
  rw [e] at hl
  simp -implicitDefEqProofs +contextual (disch := omega) only [s_laws_toStringS, u_laws_toStringS, rr_laws_toStringS, lenV_osl, frz_osl, osl_some, rep_str, sv, ↓XD, XU, ↓reduceIte, sevalprocAttr, hl]
  simp [trim, bare, refsL, refs]
theorem es_toUpS (o : Option (List Up)) (hb : (ol o).length ≤ 1048576) : Out (ES A n_laws_toUpS [osl Up.cells o] []) sh_UpS 2 (.fz ((ol o).map Up.cells)) := by
  refine Out.flat Up.cells (ol o) _ hb (fun x X R => by simp only [WTs, WT, sh_UpS]; exact ⟨_, _, rfl, ⟨_, rfl⟩, _, _, rfl, ⟨_, rfl⟩, rfl⟩) (fun x X d hd => by obtain ⟨d, rfl⟩ := frz_pos hd; rfl) ?_
  have hl := (lp_toUp o hb (List.replicate (ol o).length ⟨false, 0⟩) (by simp)).1
  have e := iter_map (ol o) id ⟨false, 0⟩
  simp only [id_eq, List.map_id] at e
  rw [e] at hl
  simp -implicitDefEqProofs +contextual (disch := omega) only [s_laws_toUpS, u_laws_toUpS, rr_laws_toUpS, lenV_osl, frz_osl, osl_some, rep_up, Up.cells, ↓XD, XU, ↓reduceIte, sevalprocAttr, hl]
  simp [trim, bare, refsL, refs]
theorem trim_zero (roots : List PV) (H : Heap) (ed : Edges) (h : refsL roots ≠ []) : trim 0 roots H ed = (H, ed) := by
  simp only [trim]
  cases hr : refsL roots with
  | nil => exact absurd hr h
  | cons r rs => simp [bare]
theorem trim_edge (n r : Nat) (roots : List PV) (H : Heap) (ed : Edges) (hn : 1 ≤ n) (hr : n ≤ r) (h : (0, r) ∈ ed) : trim n roots H ed = (H, ed) := by
  simp only [trim]
  have : (ed.all fun e => decide (n ≤ e.1) || decide (e.2 < n)) = false := by
    rw [Bool.eq_false_iff]
    intro hall
    have := List.all_eq_true.1 hall _ h
    simp at this
    omega
  rw [this, Bool.and_false]
theorem get_mid (pre X suf : Heap) (k : Nat) (hk : pre.length = k) (id : Nat) (h : id < X.length) : (pre ++ X.map (lendB k) ++ suf)[k + id]? = (X[id]?).map (lendB k) := by
  rw [List.getElem?_append_left (by simp; omega), List.getElem?_append_right (by omega), show k + id - pre.length = id by omega, List.getElem?_map]
theorem WTs.nil {H : Heap} {R : Nat → Prop} : WTs H R [] [] := by simp only [WTs]
theorem WTs.cons {H : Heap} {R : Nat → Prop} {e : Sh} {es : List Sh} {p : PV} {ps : List PV} (h : WT H R e p) (t : WTs H R es ps) : WTs H R (e :: es) (p :: ps) := by
  simp only [WTs]; exact ⟨p, ps, rfl, h, t⟩
theorem WT.int {H : Heap} {R : Nat → Prop} (k : IntKind) (n : Int) : WT H R (.int k) (.int k n) := by simp only [WT]; exact ⟨n, rfl⟩
theorem WT.bool {H : Heap} {R : Nat → Prop} (n : Bool) : WT H R .bool (.bool n) := by simp only [WT]; exact ⟨n, rfl⟩
theorem WT.str {H : Heap} {R : Nat → Prop} (n : ByteArray) : WT H R .str (.str n) := by simp only [WT]; exact ⟨n, rfl⟩
theorem WT.flt {H : Heap} {R : Nat → Prop} (k : FloatKind) (n : Nat) : WT H R (.flt k) (.flt k n) := by simp only [WT]; exact ⟨n, rfl⟩
theorem es_toNode (n : RNode) (h : NodeS n) : ∃ (row : List PV) (X : Heap) (ed : Edges), ES A n_laws_toNode [.agg n.cells] [] = some (.agg row, X, ed) ∧ WTs X (fun j => j < X.length) sh_NodeS row ∧ (∀ d, 2 ≤ d → row.map (frz d X) = n.norm.cells) := by
  obtain ⟨a1, m1, X1, ed1, g1, w1, z1⟩ := es_toIntS n.Refs h.r
  obtain ⟨a2, m2, X2, ed2, g2, w2, z2⟩ := es_toIntS n.Kids h.k
  obtain ⟨b0, b1, b2, ed, hE⟩ : ∃ (b0 b1 b2 : Blk) (ed : Edges), ES A n_laws_toNode [.agg n.cells] [] = some (.agg [.int .i64 n.Kind, .int .i64 n.Line, .int .i64 n.Op, .int .i64 n.Num, .flt .f64 n.Flt, .str n.Str, .sl (3 + a1) 0 m1 m1, .sl (List.length X1 + 1 + 1 + 1 + a2) 0 m2 m2], b0 :: b1 :: b2 :: (X1.map (lendB (3)) ++ X2.map (lendB (List.length X1 + 1 + 1 + 1))), ed) := by
    have ht : ∀ (H : Heap) (ed : Edges), trim 0 [.agg [.int .i64 n.Kind, .int .i64 n.Line, .int .i64 n.Op, .int .i64 n.Num, .flt .f64 n.Flt, .str n.Str, .sl (3 + a1) 0 m1 m1, .sl (List.length X1 + 1 + 1 + 1 + a2) 0 m2 m2]] H ed = (H, ed) := fun H ed => trim_zero _ _ _ (by simp [refsL, refs])
    exact ⟨_, _, _, _, by (simp -implicitDefEqProofs +contextual (disch := omega) only [s_laws_toNode, u_laws_toNode, rr_laws_toNode, RNode.cells, frz_osl, refs_osl, isLeaf_osl, cellsOf_osl, List.length_append, List.length_map, List.cons_append, List.nil_append, ↓XD, XU, ↓reduceIte, sevalprocAttr, g1, g2, ht]) <;> rfl⟩
  obtain ⟨G, hG⟩ : ∃ G : Heap, G = b0 :: b1 :: b2 :: (X1.map (lendB (3)) ++ X2.map (lendB (List.length X1 + 1 + 1 + 1))) := ⟨_, rfl⟩
  rw [← hG] at hE
  have e1 : G = ([b0, b1, b2]) ++ X1.map (lendB (3)) ++ (X2.map (lendB (List.length X1 + 1 + 1 + 1))) := by rw [hG]; simp [List.append_assoc]
  have l1 : ∀ id, id < X1.length → G[3 + id]? = (X1[id]?).map (lendB (3)) := fun id hid => by rw [e1]; exact get_mid _ _ _ _ (by simp; try omega) id hid
  have v1 : WT G (fun j => j < G.length) (.slice sh_IntS) (.sl (3 + a1) 0 m1 m1) := by
    have := WT.lend l1 w1
    rw [lendV] at this
    refine this.frame fun j hj => ⟨?_, rfl⟩
    obtain ⟨id, rfl, hid⟩ := hj
    rw [e1]; simp; omega
  have y1 : ∀ d, frz d G (.sl (3 + a1) 0 m1 m1) = frz d X1 (.sl a1 0 m1 m1) := fun d => by
    have := WT.frz_lend l1 w1 d
    rw [lendV] at this; exact this
  have e2 : G = (b0 :: b1 :: b2 :: X1.map (lendB (3))) ++ X2.map (lendB (List.length X1 + 1 + 1 + 1)) ++ ([]) := by rw [hG]; simp [List.append_assoc]
  have l2 : ∀ id, id < X2.length → G[List.length X1 + 1 + 1 + 1 + id]? = (X2[id]?).map (lendB (List.length X1 + 1 + 1 + 1)) := fun id hid => by rw [e2]; exact get_mid _ _ _ _ (by simp; try omega) id hid
  have v2 : WT G (fun j => j < G.length) (.slice sh_IntS) (.sl (List.length X1 + 1 + 1 + 1 + a2) 0 m2 m2) := by
    have := WT.lend l2 w2
    rw [lendV] at this
    refine this.frame fun j hj => ⟨?_, rfl⟩
    obtain ⟨id, rfl, hid⟩ := hj
    rw [e2]; simp; omega
  have y2 : ∀ d, frz d G (.sl (List.length X1 + 1 + 1 + 1 + a2) 0 m2 m2) = frz d X2 (.sl a2 0 m2 m2) := fun d => by
    have := WT.frz_lend l2 w2 d
    rw [lendV] at this; exact this
  refine ⟨_, G, ed, hE, WTs.cons (WT.int _ _) (WTs.cons (WT.int _ _) (WTs.cons (WT.int _ _) (WTs.cons (WT.int _ _) (WTs.cons (WT.flt _ _) (WTs.cons (WT.str _) (WTs.cons v1 (WTs.cons v2 (WTs.nil)))))))), fun d hd => ?_⟩
  obtain ⟨d, rfl⟩ := frz_pos (show 1 ≤ d by omega)
  simp only [List.map_cons, List.map_nil, frz_int, frz_bool, frz_str, frz_flt, y1, y2, z1 (d + 1) (by omega), z2 (d + 1) (by omega)]
  first | rfl | (simp only [RNode.norm, RNode.cells, osl_some, List.map_map]; rfl)
theorem lo_toNodeS (o : Option (List RNode)) (hb : (ol o).length ≤ 1048576) (hs : ∀ i : Int, NodeS (nth (ol o) i)) (rows0 : List (List PV)) (h0 : rows0.length = (ol o).length) (h1 : ∀ r ∈ rows0, r.length = 8) :
    ∃ a' : List (List PV) × Heap × Edges, EV A (.loop (B_laws_toNodeS 0)) (⟨[(0, osl RNode.cells o), (2, .nils), (3, .sl 0 0 (ol o).length (ol o).length), (4, .int .i64 0)], [], .cells 8 rows0 :: [], []⟩ : St) = some (AExit.exit 0, (⟨[(0, osl RNode.cells o), (2, .nils), (3, .sl 0 0 (ol o).length (ol o).length), (4, .int .i64 (ol o).length)], [], .cells 8 a'.1 :: a'.2.1, a'.2.2⟩ : St)) ∧
      (a'.1.length = (ol o).length ∧ (∀ r ∈ a'.1, r.length = 8) ∧ ∀ j : Nat, (j : Int) < (ol o).length → ∃ r, a'.1[j]? = some r ∧ WTs (.cells 8 a'.1 :: a'.2.1) (fun x => 1 ≤ x ∧ x < a'.2.1.length + 1) sh_NodeS r ∧ ∀ d, 2 ≤ d → r.map (frz d (.cells 8 a'.1 :: a'.2.1)) = (nth (ol o) j).norm.cells) := by
  refine loop_rel (P := A) (body := B_laws_toNodeS 0) (fun (i : Int) (a : List (List PV) × Heap × Edges) => (⟨[(0, osl RNode.cells o), (2, .nils), (3, .sl 0 0 (ol o).length (ol o).length), (4, .int .i64 i)], [], .cells 8 a.1 :: a.2.1, a.2.2⟩ : St)) (fun i a => a.1.length = (ol o).length ∧ (∀ r ∈ a.1, r.length = 8) ∧ ∀ j : Nat, (j : Int) < i → ∃ r, a.1[j]? = some r ∧ WTs (.cells 8 a.1 :: a.2.1) (fun x => 1 ≤ x ∧ x < a.2.1.length + 1) sh_NodeS r ∧ ∀ d, 2 ≤ d → r.map (frz d (.cells 8 a.1 :: a.2.1)) = (nth (ol o) j).norm.cells) (fun a => (AExit.exit 0, (⟨[(0, osl RNode.cells o), (2, .nils), (3, .sl 0 0 (ol o).length (ol o).length), (4, .int .i64 (ol o).length)], [], .cells 8 a.1 :: a.2.1, a.2.2⟩ : St))) 0 (ol o).length ?_ ?_ 0 (rows0, [], []) (by omega) (by omega) ⟨h0, h1, fun j hj => by omega⟩
  · rintro i ⟨rows, T, ed⟩ hi hin ⟨hl, h8, hold⟩
    dsimp only at hl h8 hold ⊢
    obtain ⟨row, X, ed', e, w, z⟩ := es_toNode (nth (ol o) i) (hs i)
    obtain ⟨x0, x1, x2, x3, x4, x5, x6, x7, rfl, w6, w7⟩ := row_NodeS w
    have w6' := w6
    simp only [WT] at w6'
    obtain ⟨p6, q6, _, rfl, _⟩ := w6'
    clear w6
    have w7' := w7
    simp only [WT] at w7'
    obtain ⟨p7, q7, _, rfl, _⟩ := w7'
    clear w7
    have hi2 : i.toNat < rows.length := by omega
    have hr := List.getElem?_eq_getElem hi2
    generalize rows[i.toNat] = r0 at hr
    have hr8 : r0.length = 8 := h8 r0 (List.mem_of_getElem? hr)
    have hd8 : r0.drop 8 = [] := List.drop_of_length_le (by omega)
    have qset : ∀ r, (rows.set i.toNat r)[i.toNat]? = some r := fun r => List.getElem?_set_self hi2
    simp only [RNode.cells] at e
    refine ⟨_, ⟨_, _, _⟩, by (simp -implicitDefEqProofs +contextual (disch := omega) only [ub_laws_toNodeS_0, rr_laws_toNodeS, lenV_osl, idx_osl, frz_osl, refs_osl, isLeaf_osl, RNode.cells, List.cons_append, List.nil_append, List.append_nil, List.take_zero, List.length_set, ↓XD, XU, ↓reduceIte, sevalprocAttr, hin, hl, hr, hr8, hd8, e]) <;> rfl, by
      simp only [St.next]
      rw [trim_edge _ (T.length + 1 + p6) _ _ _ (by simp) (by simp only [List.length_cons]; omega) (by simp [show 0 < T.length + 1 + p6 by omega])]
      rfl, ?_⟩
    dsimp only
    have key : ∀ id, id < X.length → (Blk.cells 8 (rows.set i.toNat [.int .i64 x0, .int .i64 x1, .int .i64 x2, .int .i64 x3, .flt .f64 x4, .str x5, .sl (T.length + 1 + p6) 0 q6 q6, .sl (T.length + 1 + p7) 0 q7 q7]) :: (T ++ X.map (lendB (T.length + 1))))[T.length + 1 + id]? = (X[id]?).map (lendB (T.length + 1)) := fun id hid => by
      have := get_mid (Blk.cells 8 (rows.set i.toNat [.int .i64 x0, .int .i64 x1, .int .i64 x2, .int .i64 x3, .flt .f64 x4, .str x5, .sl (T.length + 1 + p6) 0 q6 q6, .sl (T.length + 1 + p7) 0 q7 q7]) :: T) X [] (T.length + 1) (by simp) id hid
      simpa using this
    refine ⟨by simpa using hl, fun r hr' => ?_, fun j hj => ?_⟩
    · rcases List.mem_or_eq_of_mem_set hr' with h | rfl
      · exact h8 r h
      · rfl
    · by_cases hji : (j : Int) = i
      · have hj2 : i.toNat = j := by omega
        refine ⟨_, by rw [← hj2]; exact qset _, ?_, fun d hd => ?_⟩
        · have := WTs.lend key w
          simp only [lendL, lendV] at this
          refine this.frame fun x hx => ⟨?_, rfl⟩
          obtain ⟨id, rfl, hid⟩ := hx
          simp; omega
        · have h3 := WTs.frz_lend key w d
          simp only [lendL, lendV] at h3
          rw [h3, z d hd, hji]
      · obtain ⟨r, k1, k2, k3⟩ := hold j (by omega)
        have hfr : ∀ x, (1 ≤ x ∧ x < T.length + 1) → (Blk.cells 8 (rows.set i.toNat [.int .i64 x0, .int .i64 x1, .int .i64 x2, .int .i64 x3, .flt .f64 x4, .str x5, .sl (T.length + 1 + p6) 0 q6 q6, .sl (T.length + 1 + p7) 0 q7 q7]) :: (T ++ X.map (lendB (T.length + 1))))[x]? = (Blk.cells 8 rows :: T)[x]? := fun x hx => by
          obtain ⟨y, rfl⟩ : ∃ y, x = y + 1 := ⟨x - 1, by omega⟩
          simp only [List.getElem?_cons_succ]
          exact List.getElem?_append_left (by omega)
        refine ⟨r, by rw [List.getElem?_set_ne (by omega)]; exact k1, k2.frame fun x hx => ⟨by simp; omega, hfr x hx⟩, fun d hd => ?_⟩
        rw [WTs.frz_frame hfr k2 d]
        exact k3 d hd
  · rintro i ⟨rows, T, ed⟩ hi rfl hok
    refine ⟨by simp -implicitDefEqProofs +contextual (disch := omega) only [ub_laws_toNodeS_0, rr_laws_toNodeS, lenV_osl, ↓XD, XU, ↓reduceIte, sevalprocAttr, Int.lt_irrefl], by simp⟩
theorem es_toNodeS (o : Option (List RNode)) (hb : (ol o).length ≤ 1048576) (hs : ∀ i : Int, NodeS (nth (ol o) i)) : Out (ES A n_laws_toNodeS [osl RNode.cells o] []) sh_NodeS 3 (.fz ((ol o).map fun n => n.norm.cells)) := by
  obtain ⟨⟨rows, T, ed⟩, e, hl, h8, hold⟩ := lo_toNodeS o hb hs (List.replicate (ol o).length [.int .i64 0, .int .i64 0, .int .i64 0, .int .i64 0, .flt .f64 0, .str ⟨#[]⟩, .nils, .nils]) (by simp) (fun r hr => by rw [List.eq_of_mem_replicate hr]; rfl)
  dsimp only at e hl h8 hold
  refine ⟨0, (ol o).length, .cells 8 rows :: T, ed, ?_, ?_, fun d hd => ?_⟩
  · simp -implicitDefEqProofs +contextual (disch := omega) only [s_laws_toNodeS, u_laws_toNodeS, rr_laws_toNodeS, lenV_osl, frz_osl, osl_some, ↓XD, XU, ↓reduceIte, sevalprocAttr, e]
    rw [trim_zero _ _ _ (by simp [refsL, refs])]
    try rfl
  · simp only [WT]
    refine ⟨0, _, rows, rfl, by simp, rfl, hl, hb, fun r hr => ?_⟩
    obtain ⟨j, hj, rfl⟩ := List.mem_iff_getElem.1 hr
    obtain ⟨r, k1, k2, _⟩ := hold j (by omega)
    rw [List.getElem?_eq_getElem hj] at k1
    cases k1
    exact k2.frame fun x hx => ⟨by simp; omega, rfl⟩
  · obtain ⟨d, rfl⟩ := frz_pos (show 1 ≤ d by omega)
    rw [frz_whole d (s := 8) (rows := rows) rfl hl]
    congr 1
    refine List.ext_getElem? fun j => ?_
    rw [List.getElem?_map, List.getElem?_map]
    rcases Nat.lt_or_ge j (ol o).length with hj | hj
    · obtain ⟨r, k1, _, k3⟩ := hold j (by omega)
      have hn : (ol o)[j]? = some (nth (ol o) (j : Int)) := by
        have := nth_some (l := ol o) (i := (j : Int)) (by omega) (by omega)
        simpa using this
      rw [k1, hn]
      simp only [Option.map_some]
      rw [k3 d (by omega)]
    · rw [List.getElem?_eq_none (by omega), List.getElem?_eq_none (by omega)]; rfl
theorem es_toFn (n : RFn) (h : FnS n) : ∃ (row : List PV) (X : Heap) (ed : Edges), ES A n_laws_toFn [.agg n.cells] [] = some (.agg row, X, ed) ∧ WTs X (fun j => j < X.length) sh_FnS row ∧ (∀ d, 3 ≤ d → row.map (frz d X) = n.norm.cells) := by
  obtain ⟨a1, m1, X1, ed1, g1, w1, z1⟩ := es_toStringS n.Vars h.v
  obtain ⟨a2, m2, X2, ed2, g2, w2, z2⟩ := es_toUpS n.Ups h.u
  obtain ⟨a3, m3, X3, ed3, g3, w3, z3⟩ := es_toNodeS n.Nodes h.n h.ns
  obtain ⟨b0, b1, b2, ed, hE⟩ : ∃ (b0 b1 b2 : Blk) (ed : Edges), ES A n_laws_toFn [.agg n.cells] [] = some (.agg [.str n.Name, .int .i64 n.Line, .int .i64 n.Params, .bool n.Rest, .sl (3 + a1) 0 m1 m1, .sl (List.length X1 + 1 + 1 + 1 + a2) 0 m2 m2, .sl (List.length X1 + List.length X2 + 1 + 1 + 1 + a3) 0 m3 m3], b0 :: b1 :: b2 :: ((X1.map (lendB (3)) ++ X2.map (lendB (List.length X1 + 1 + 1 + 1))) ++ X3.map (lendB (List.length X1 + List.length X2 + 1 + 1 + 1))), ed) := by
    have ht : ∀ (H : Heap) (ed : Edges), trim 0 [.agg [.str n.Name, .int .i64 n.Line, .int .i64 n.Params, .bool n.Rest, .sl (3 + a1) 0 m1 m1, .sl (List.length X1 + 1 + 1 + 1 + a2) 0 m2 m2, .sl (List.length X1 + List.length X2 + 1 + 1 + 1 + a3) 0 m3 m3]] H ed = (H, ed) := fun H ed => trim_zero _ _ _ (by simp [refsL, refs])
    exact ⟨_, _, _, _, by (simp -implicitDefEqProofs +contextual (disch := omega) only [s_laws_toFn, u_laws_toFn, rr_laws_toFn, RFn.cells, frz_osl, refs_osl, isLeaf_osl, cellsOf_osl, List.length_append, List.length_map, List.cons_append, List.nil_append, ↓XD, XU, ↓reduceIte, sevalprocAttr, g1, g2, g3, ht]) <;> rfl⟩
  obtain ⟨G, hG⟩ : ∃ G : Heap, G = b0 :: b1 :: b2 :: ((X1.map (lendB (3)) ++ X2.map (lendB (List.length X1 + 1 + 1 + 1))) ++ X3.map (lendB (List.length X1 + List.length X2 + 1 + 1 + 1))) := ⟨_, rfl⟩
  rw [← hG] at hE
  have e1 : G = ([b0, b1, b2]) ++ X1.map (lendB (3)) ++ (X2.map (lendB (List.length X1 + 1 + 1 + 1)) ++ X3.map (lendB (List.length X1 + List.length X2 + 1 + 1 + 1))) := by rw [hG]; simp [List.append_assoc]
  have l1 : ∀ id, id < X1.length → G[3 + id]? = (X1[id]?).map (lendB (3)) := fun id hid => by rw [e1]; exact get_mid _ _ _ _ (by simp; try omega) id hid
  have v1 : WT G (fun j => j < G.length) (.slice sh_StringS) (.sl (3 + a1) 0 m1 m1) := by
    have := WT.lend l1 w1
    rw [lendV] at this
    refine this.frame fun j hj => ⟨?_, rfl⟩
    obtain ⟨id, rfl, hid⟩ := hj
    rw [e1]; simp; omega
  have y1 : ∀ d, frz d G (.sl (3 + a1) 0 m1 m1) = frz d X1 (.sl a1 0 m1 m1) := fun d => by
    have := WT.frz_lend l1 w1 d
    rw [lendV] at this; exact this
  have e2 : G = (b0 :: b1 :: b2 :: X1.map (lendB (3))) ++ X2.map (lendB (List.length X1 + 1 + 1 + 1)) ++ (X3.map (lendB (List.length X1 + List.length X2 + 1 + 1 + 1))) := by rw [hG]; simp [List.append_assoc]
  have l2 : ∀ id, id < X2.length → G[List.length X1 + 1 + 1 + 1 + id]? = (X2[id]?).map (lendB (List.length X1 + 1 + 1 + 1)) := fun id hid => by rw [e2]; exact get_mid _ _ _ _ (by simp; try omega) id hid
  have v2 : WT G (fun j => j < G.length) (.slice sh_UpS) (.sl (List.length X1 + 1 + 1 + 1 + a2) 0 m2 m2) := by
    have := WT.lend l2 w2
    rw [lendV] at this
    refine this.frame fun j hj => ⟨?_, rfl⟩
    obtain ⟨id, rfl, hid⟩ := hj
    rw [e2]; simp; omega
  have y2 : ∀ d, frz d G (.sl (List.length X1 + 1 + 1 + 1 + a2) 0 m2 m2) = frz d X2 (.sl a2 0 m2 m2) := fun d => by
    have := WT.frz_lend l2 w2 d
    rw [lendV] at this; exact this
  have e3 : G = (b0 :: b1 :: b2 :: (X1.map (lendB (3)) ++ X2.map (lendB (List.length X1 + 1 + 1 + 1)))) ++ X3.map (lendB (List.length X1 + List.length X2 + 1 + 1 + 1)) ++ ([]) := by rw [hG]; simp [List.append_assoc]
  have l3 : ∀ id, id < X3.length → G[List.length X1 + List.length X2 + 1 + 1 + 1 + id]? = (X3[id]?).map (lendB (List.length X1 + List.length X2 + 1 + 1 + 1)) := fun id hid => by rw [e3]; exact get_mid _ _ _ _ (by simp; try omega) id hid
  have v3 : WT G (fun j => j < G.length) (.slice sh_NodeS) (.sl (List.length X1 + List.length X2 + 1 + 1 + 1 + a3) 0 m3 m3) := by
    have := WT.lend l3 w3
    rw [lendV] at this
    refine this.frame fun j hj => ⟨?_, rfl⟩
    obtain ⟨id, rfl, hid⟩ := hj
    rw [e3]; simp; omega
  have y3 : ∀ d, frz d G (.sl (List.length X1 + List.length X2 + 1 + 1 + 1 + a3) 0 m3 m3) = frz d X3 (.sl a3 0 m3 m3) := fun d => by
    have := WT.frz_lend l3 w3 d
    rw [lendV] at this; exact this
  refine ⟨_, G, ed, hE, WTs.cons (WT.str _) (WTs.cons (WT.int _ _) (WTs.cons (WT.int _ _) (WTs.cons (WT.bool _) (WTs.cons v1 (WTs.cons v2 (WTs.cons v3 (WTs.nil))))))), fun d hd => ?_⟩
  obtain ⟨d, rfl⟩ := frz_pos (show 1 ≤ d by omega)
  simp only [List.map_cons, List.map_nil, frz_int, frz_bool, frz_str, frz_flt, y1, y2, y3, z1 (d + 1) (by omega), z2 (d + 1) (by omega), z3 (d + 1) (by omega)]
  first | rfl | (simp only [RFn.norm, RFn.cells, osl_some, List.map_map]; rfl)
theorem lo_toFnS (o : Option (List RFn)) (hb : (ol o).length ≤ 1048576) (hs : ∀ i : Int, FnS (nth (ol o) i)) (rows0 : List (List PV)) (h0 : rows0.length = (ol o).length) (h1 : ∀ r ∈ rows0, r.length = 7) :
    ∃ a' : List (List PV) × Heap × Edges, EV A (.loop (B_laws_toFnS 0)) (⟨[(0, osl RFn.cells o), (2, .nils), (3, .sl 0 0 (ol o).length (ol o).length), (4, .int .i64 0)], [], .cells 7 rows0 :: [], []⟩ : St) = some (AExit.exit 0, (⟨[(0, osl RFn.cells o), (2, .nils), (3, .sl 0 0 (ol o).length (ol o).length), (4, .int .i64 (ol o).length)], [], .cells 7 a'.1 :: a'.2.1, a'.2.2⟩ : St)) ∧
      (a'.1.length = (ol o).length ∧ (∀ r ∈ a'.1, r.length = 7) ∧ ∀ j : Nat, (j : Int) < (ol o).length → ∃ r, a'.1[j]? = some r ∧ WTs (.cells 7 a'.1 :: a'.2.1) (fun x => 1 ≤ x ∧ x < a'.2.1.length + 1) sh_FnS r ∧ ∀ d, 3 ≤ d → r.map (frz d (.cells 7 a'.1 :: a'.2.1)) = (nth (ol o) j).norm.cells) := by
  refine loop_rel (P := A) (body := B_laws_toFnS 0) (fun (i : Int) (a : List (List PV) × Heap × Edges) => (⟨[(0, osl RFn.cells o), (2, .nils), (3, .sl 0 0 (ol o).length (ol o).length), (4, .int .i64 i)], [], .cells 7 a.1 :: a.2.1, a.2.2⟩ : St)) (fun i a => a.1.length = (ol o).length ∧ (∀ r ∈ a.1, r.length = 7) ∧ ∀ j : Nat, (j : Int) < i → ∃ r, a.1[j]? = some r ∧ WTs (.cells 7 a.1 :: a.2.1) (fun x => 1 ≤ x ∧ x < a.2.1.length + 1) sh_FnS r ∧ ∀ d, 3 ≤ d → r.map (frz d (.cells 7 a.1 :: a.2.1)) = (nth (ol o) j).norm.cells) (fun a => (AExit.exit 0, (⟨[(0, osl RFn.cells o), (2, .nils), (3, .sl 0 0 (ol o).length (ol o).length), (4, .int .i64 (ol o).length)], [], .cells 7 a.1 :: a.2.1, a.2.2⟩ : St))) 0 (ol o).length ?_ ?_ 0 (rows0, [], []) (by omega) (by omega) ⟨h0, h1, fun j hj => by omega⟩
  · rintro i ⟨rows, T, ed⟩ hi hin ⟨hl, h8, hold⟩
    dsimp only at hl h8 hold ⊢
    obtain ⟨row, X, ed', e, w, z⟩ := es_toFn (nth (ol o) i) (hs i)
    obtain ⟨x0, x1, x2, x3, x4, x5, x6, rfl, w4, w5, w6⟩ := row_FnS w
    have w4' := w4
    simp only [WT] at w4'
    obtain ⟨p4, q4, _, rfl, _⟩ := w4'
    clear w4
    have w5' := w5
    simp only [WT] at w5'
    obtain ⟨p5, q5, _, rfl, _⟩ := w5'
    clear w5
    have w6' := w6
    simp only [WT] at w6'
    obtain ⟨p6, q6, _, rfl, _⟩ := w6'
    clear w6
    have hi2 : i.toNat < rows.length := by omega
    have hr := List.getElem?_eq_getElem hi2
    generalize rows[i.toNat] = r0 at hr
    have hr8 : r0.length = 7 := h8 r0 (List.mem_of_getElem? hr)
    have hd8 : r0.drop 7 = [] := List.drop_of_length_le (by omega)
    have qset : ∀ r, (rows.set i.toNat r)[i.toNat]? = some r := fun r => List.getElem?_set_self hi2
    simp only [RFn.cells] at e
    refine ⟨_, ⟨_, _, _⟩, by (simp -implicitDefEqProofs +contextual (disch := omega) only [ub_laws_toFnS_0, rr_laws_toFnS, lenV_osl, idx_osl, frz_osl, refs_osl, isLeaf_osl, RFn.cells, List.cons_append, List.nil_append, List.append_nil, List.take_zero, List.length_set, ↓XD, XU, ↓reduceIte, sevalprocAttr, hin, hl, hr, hr8, hd8, e]) <;> rfl, by
      simp only [St.next]
      rw [trim_edge _ (T.length + 1 + p4) _ _ _ (by simp) (by simp only [List.length_cons]; omega) (by simp [show 0 < T.length + 1 + p4 by omega])]
      rfl, ?_⟩
    dsimp only
    have key : ∀ id, id < X.length → (Blk.cells 7 (rows.set i.toNat [.str x0, .int .i64 x1, .int .i64 x2, .bool x3, .sl (T.length + 1 + p4) 0 q4 q4, .sl (T.length + 1 + p5) 0 q5 q5, .sl (T.length + 1 + p6) 0 q6 q6]) :: (T ++ X.map (lendB (T.length + 1))))[T.length + 1 + id]? = (X[id]?).map (lendB (T.length + 1)) := fun id hid => by
      have := get_mid (Blk.cells 7 (rows.set i.toNat [.str x0, .int .i64 x1, .int .i64 x2, .bool x3, .sl (T.length + 1 + p4) 0 q4 q4, .sl (T.length + 1 + p5) 0 q5 q5, .sl (T.length + 1 + p6) 0 q6 q6]) :: T) X [] (T.length + 1) (by simp) id hid
      simpa using this
    refine ⟨by simpa using hl, fun r hr' => ?_, fun j hj => ?_⟩
    · rcases List.mem_or_eq_of_mem_set hr' with h | rfl
      · exact h8 r h
      · rfl
    · by_cases hji : (j : Int) = i
      · have hj2 : i.toNat = j := by omega
        refine ⟨_, by rw [← hj2]; exact qset _, ?_, fun d hd => ?_⟩
        · have := WTs.lend key w
          simp only [lendL, lendV] at this
          refine this.frame fun x hx => ⟨?_, rfl⟩
          obtain ⟨id, rfl, hid⟩ := hx
          simp; omega
        · have h3 := WTs.frz_lend key w d
          simp only [lendL, lendV] at h3
          rw [h3, z d hd, hji]
      · obtain ⟨r, k1, k2, k3⟩ := hold j (by omega)
        have hfr : ∀ x, (1 ≤ x ∧ x < T.length + 1) → (Blk.cells 7 (rows.set i.toNat [.str x0, .int .i64 x1, .int .i64 x2, .bool x3, .sl (T.length + 1 + p4) 0 q4 q4, .sl (T.length + 1 + p5) 0 q5 q5, .sl (T.length + 1 + p6) 0 q6 q6]) :: (T ++ X.map (lendB (T.length + 1))))[x]? = (Blk.cells 7 rows :: T)[x]? := fun x hx => by
          obtain ⟨y, rfl⟩ : ∃ y, x = y + 1 := ⟨x - 1, by omega⟩
          simp only [List.getElem?_cons_succ]
          exact List.getElem?_append_left (by omega)
        refine ⟨r, by rw [List.getElem?_set_ne (by omega)]; exact k1, k2.frame fun x hx => ⟨by simp; omega, hfr x hx⟩, fun d hd => ?_⟩
        rw [WTs.frz_frame hfr k2 d]
        exact k3 d hd
  · rintro i ⟨rows, T, ed⟩ hi rfl hok
    refine ⟨by simp -implicitDefEqProofs +contextual (disch := omega) only [ub_laws_toFnS_0, rr_laws_toFnS, lenV_osl, ↓XD, XU, ↓reduceIte, sevalprocAttr, Int.lt_irrefl], by simp⟩
theorem es_toFnS (o : Option (List RFn)) (hb : (ol o).length ≤ 1048576) (hs : ∀ i : Int, FnS (nth (ol o) i)) : Out (ES A n_laws_toFnS [osl RFn.cells o] []) sh_FnS 4 (.fz ((ol o).map fun n => n.norm.cells)) := by
  obtain ⟨⟨rows, T, ed⟩, e, hl, h8, hold⟩ := lo_toFnS o hb hs (List.replicate (ol o).length [.str ⟨#[]⟩, .int .i64 0, .int .i64 0, .bool false, .nils, .nils, .nils]) (by simp) (fun r hr => by rw [List.eq_of_mem_replicate hr]; rfl)
  dsimp only at e hl h8 hold
  refine ⟨0, (ol o).length, .cells 7 rows :: T, ed, ?_, ?_, fun d hd => ?_⟩
  · simp -implicitDefEqProofs +contextual (disch := omega) only [s_laws_toFnS, u_laws_toFnS, rr_laws_toFnS, lenV_osl, frz_osl, osl_some, ↓XD, XU, ↓reduceIte, sevalprocAttr, e]
    rw [trim_zero _ _ _ (by simp [refsL, refs])]
    try rfl
  · simp only [WT]
    refine ⟨0, _, rows, rfl, by simp, rfl, hl, hb, fun r hr => ?_⟩
    obtain ⟨j, hj, rfl⟩ := List.mem_iff_getElem.1 hr
    obtain ⟨r, k1, k2, _⟩ := hold j (by omega)
    rw [List.getElem?_eq_getElem hj] at k1
    cases k1
    exact k2.frame fun x hx => ⟨by simp; omega, rfl⟩
  · obtain ⟨d, rfl⟩ := frz_pos (show 1 ≤ d by omega)
    rw [frz_whole d (s := 7) (rows := rows) rfl hl]
    congr 1
    refine List.ext_getElem? fun j => ?_
    rw [List.getElem?_map, List.getElem?_map]
    rcases Nat.lt_or_ge j (ol o).length with hj | hj
    · obtain ⟨r, k1, _, k3⟩ := hold j (by omega)
      have hn : (ol o)[j]? = some (nth (ol o) (j : Int)) := by
        have := nth_some (l := ol o) (i := (j : Int)) (by omega) (by omega)
        simpa using this
      rw [k1, hn]
      simp only [Option.map_some]
      rw [k3 d (by omega)]
    · rw [List.getElem?_eq_none (by omega), List.getElem?_eq_none (by omega)]; rfl
theorem fault_zero {fs : List Fn} (h : (specFault fs).1 = 0) : specFault fs = (0, 0, 0) := by
  rw [specFault] at h ⊢
  by_cases h1 : (first fs).1 = 0
  · rw [if_neg (by simpa using h1)] at h ⊢
    by_cases h2 : (second fs).1 = 0
    · rw [if_neg (by simpa using h2)] at h ⊢
      revert h; unfold third; repeat' split
      all_goals (intro h; first | rfl | exact absurd h (by dsimp only; decide))
    · rw [if_pos h2] at h; exact absurd h h2
  · rw [if_pos h1] at h; exact absurd h h1
def capOk (fs : List Fn) (f : Int) : Prop := ((specFault fs).1 = 0 ∧ 0 ≤ f) ∧ f < fs.length
theorem bl_lend (k : Nat) (l : List Bool) : (bl l).map (lendL k) = bl l := by
  simp only [bl, List.map_map]
  exact List.map_congr_left fun b _ => rfl
theorem ep_Captured_ok (fs : List Fn) (f : Int) (hb : fs.length ≤ 1048576) (ht : total fs ≤ 1048576) (hs : SizedF fs) (h : capOk fs f) : EP A n_spec_Captured [unit fs, .int .i64 f] = some (.fz (bl (capt fs f))) := by
  obtain ⟨⟨h1, h2⟩, h3⟩ := h
  have e1 := ep_CheckUnit fs hb ht hs
  have e2 := ep_l8captured fs f hb h2 h3 (sound_of hs h1)
  have h0 := fault_zero h1
  rw [h0] at e1
  have c2 : ¬f < 0 := by omega
  have c3 : ¬(fs.length : Int) ≤ f := by omega
  simp only [unit, fns] at e1 e2
  simp -implicitDefEqProofs +contextual (disch := omega) only [e_spec_Captured, u_spec_Captured, rr_spec_Captured, unit, fns, ↓XD, XU, ↓reduceIte, sevalprocAttr, e1, e2, c2, c3]
theorem ep_Captured_no (fs : List Fn) (f : Int) (hb : fs.length ≤ 1048576) (ht : total fs ≤ 1048576) (hs : SizedF fs) (h : ¬capOk fs f) : EP A n_spec_Captured [unit fs, .int .i64 f] = some .nils := by
  have e1 := ep_CheckUnit fs hb ht hs
  simp only [unit, fns] at e1
  by_cases h1 : (specFault fs).1 = 0
  · by_cases h2 : f < 0
    · simp -implicitDefEqProofs +contextual (disch := omega) only [e_spec_Captured, u_spec_Captured, rr_spec_Captured, unit, fns, ↓XD, XU, ↓reduceIte, sevalprocAttr, e1, h1, h2]
    · have h3 : (fs.length : Int) ≤ f := by
        by_cases h3 : (fs.length : Int) ≤ f
        · exact h3
        · exact absurd ⟨⟨h1, by omega⟩, by omega⟩ h
      simp -implicitDefEqProofs +contextual (disch := omega) only [e_spec_Captured, u_spec_Captured, rr_spec_Captured, unit, fns, ↓XD, XU, ↓reduceIte, sevalprocAttr, e1, h1, h2, h3]
  · simp -implicitDefEqProofs +contextual (disch := omega) only [e_spec_Captured, u_spec_Captured, rr_spec_Captured, unit, fns, ↓XD, XU, ↓reduceIte, sevalprocAttr, e1, h1]
theorem frz_bl (d : Nat) (H : Heap) (id s : Nat) (l : List Bool) (n : Nat) (h : H[id]? = some (.cells s (bl l))) (hn : l.length = n) : frz (d + 2) H (.sl id 0 n n) = .fz (bl l) := by
  rw [frz_whole (d + 1) h (by simpa using hn)]
  congr 1
  simp only [bl, List.map_map]
  exact List.map_congr_left fun b _ => rfl
theorem es_Captured_ok (fs : List Fn) (f : Int) (hb : fs.length ≤ 1048576) (ht : total fs ≤ 1048576) (hs : SizedF fs) (h : capOk fs f) : (∃ c0 c1 c2, ES A n_impl_Captured [unit fs, .int .i64 f] [] = some (.sl 3 0 (nth fs f).Vars.length (nth fs f).Vars.length, [c0, c1, c2, .cells 1 (bl (capt fs f))], [])) ∧ EP A n_impl_Captured [unit fs, .int .i64 f] = some (.fz (bl (capt fs f))) ∧ (capt fs f).length = (nth fs f).Vars.length := by
  obtain ⟨⟨h1, h2⟩, h3⟩ := h
  have e1 := ep_implCheckUnit fs hb ht hs
  obtain ⟨e2, hl⟩ := es_captured fs f hb h2 h3 (sound_of hs h1)
  have h0 := fault_zero h1
  rw [h0] at e1
  have c2 : ¬f < 0 := by omega
  have c3 : ¬(fs.length : Int) ≤ f := by omega
  have hz := fun H => frz_bl 6 H 3 1 (capt fs f) (nth fs f).Vars.length
  have hB : lendB 1 (.cells 1 (bl (capt fs f))) = .cells 1 (bl (capt fs f)) := by simp only [lendB, bl_lend]
  simp only [unit, fns] at e1 e2
  have hT : ∀ H : Heap, trim 0 [.sl 3 0 (nth fs f).Vars.length (nth fs f).Vars.length] H [] = (H, []) := fun H => trim_zero _ _ _ (by simp [refsL, refs])
  refine ⟨⟨_, _, _, by (simp -implicitDefEqProofs +contextual (disch := omega) only [s_impl_Captured, u_impl_Captured, rr_impl_Captured, ↓hB, unit, fns, eqCells, eqCell, ↓XD, XU, ↓reduceIte, sevalprocAttr, e1, e2, c2, c3, hT]) <;> rfl⟩, ?_, hl⟩
  simp -implicitDefEqProofs +contextual (disch := omega) only [e_impl_Captured, u_impl_Captured, rr_impl_Captured, ↓hB, unit, fns, eqCells, eqCell, ↓XD, XU, ↓reduceIte, sevalprocAttr, e1, e2, c2, c3]
  try rw [hz _ rfl hl]
theorem es_Captured_no (fs : List Fn) (f : Int) (hb : fs.length ≤ 1048576) (ht : total fs ≤ 1048576) (hs : SizedF fs) (h : ¬capOk fs f) : ES A n_impl_Captured [unit fs, .int .i64 f] [] = some (.nils, [], []) ∧ EP A n_impl_Captured [unit fs, .int .i64 f] = some .nils := by
  have e1 := ep_implCheckUnit fs hb ht hs
  simp only [unit, fns] at e1
  by_cases h1 : (specFault fs).1 = 0
  · have h0 := fault_zero h1
    rw [h0] at e1
    by_cases h2 : f < 0
    · constructor
      · simp -implicitDefEqProofs +contextual (disch := omega) only [s_impl_Captured, u_impl_Captured, rr_impl_Captured, unit, fns, eqCells, eqCell, ↓XD, XU, ↓reduceIte, sevalprocAttr, e1, h2]
        simp [trim, bare, refsL, refs]
      · simp -implicitDefEqProofs +contextual (disch := omega) only [e_impl_Captured, u_impl_Captured, rr_impl_Captured, unit, fns, eqCells, eqCell, ↓XD, XU, ↓reduceIte, sevalprocAttr, e1, h2]
    · have h3 : (fs.length : Int) ≤ f := by
        by_cases h3 : (fs.length : Int) ≤ f
        · exact h3
        · exact absurd ⟨⟨h1, by omega⟩, by omega⟩ h
      constructor
      · simp -implicitDefEqProofs +contextual (disch := omega) only [s_impl_Captured, u_impl_Captured, rr_impl_Captured, unit, fns, eqCells, eqCell, ↓XD, XU, ↓reduceIte, sevalprocAttr, e1, h2, h3]
        simp [trim, bare, refsL, refs]
      · simp -implicitDefEqProofs +contextual (disch := omega) only [e_impl_Captured, u_impl_Captured, rr_impl_Captured, unit, fns, eqCells, eqCell, ↓XD, XU, ↓reduceIte, sevalprocAttr, e1, h2, h3]
  · have hq : ((specFault fs).1 == 0) = false := by simpa using h1
    constructor
    · simp -implicitDefEqProofs +contextual (disch := omega) only [s_impl_Captured, u_impl_Captured, rr_impl_Captured, unit, fns, eqCells, eqCell, ↓XD, XU, ↓reduceIte, sevalprocAttr, e1, hq, Bool.false_and]
      simp [trim, bare, refsL, refs]
    · simp -implicitDefEqProofs +contextual (disch := omega) only [e_impl_Captured, u_impl_Captured, rr_impl_Captured, unit, fns, eqCells, eqCell, ↓XD, XU, ↓reduceIte, sevalprocAttr, e1, hq, Bool.false_and]
theorem lq_Bool (l : List Bool) (hb : l.length ≤ 1048576) (a0 : Unit) (hok0 : True) : EV A (.loop (B_laws_eqBoolS 0)) (⟨[(0, .fz (bl l)), (1, .fz (bl l)), (4, .bool false), (5, .int .i64 (0))], [], [], []⟩ : St) = some (AExit.exit 0, (⟨[(0, .fz (bl l)), (1, .fz (bl l)), (4, .bool false), (5, .int .i64 (l.length))], [], [], []⟩ : St)) ∧ True := by
  refine loop_iter (fun i (a : Unit) => (⟨[(0, .fz (bl l)), (1, .fz (bl l)), (4, .bool false), (5, .int .i64 i)], [], [], []⟩ : St)) (fun (i : Int) (a : Unit) => a) (fun i (a : Unit) => True) (fun a => (AExit.exit 0, (⟨[(0, .fz (bl l)), (1, .fz (bl l)), (4, .bool false), (5, .int .i64 (l.length))], [], [], []⟩ : St))) (0) (l.length) ?_ ?_ (0) a0 (by omega) (by omega) hok0
  · intro i a hi hn hok
    refine ⟨⟨_, by simp -implicitDefEqProofs +contextual (disch := omega) only [ub_laws_eqBoolS_0, rr_laws_eqBoolS, ↓XD, XU, ↓reduceIte, sevalprocAttr, bl, hn, hok]; rfl, by first | (simp [St.next, trim_all]; done) | (simp [St.next, trim_all]; omega) | (simp [St.next, trim, bare, refsL, refs]; done)⟩, by trivial⟩
  · rintro i a hi rfl hok
    refine ⟨by simp -implicitDefEqProofs +contextual (disch := omega) only [ub_laws_eqBoolS_0, rr_laws_eqBoolS, ↓XD, XU, ↓reduceIte, sevalprocAttr, bl, Int.lt_irrefl, hok], by simp⟩
theorem el_eqBoolS (l : List Bool) (hb : l.length ≤ 1048576) : EP A n_laws_eqBoolS [.fz (bl l), .fz (bl l)] = some (.bool true) := by
  have hl := (lq_Bool l hb () trivial).1
  simp only [bl] at hl
  simp -implicitDefEqProofs +contextual (disch := omega) only [e_laws_eqBoolS, u_laws_eqBoolS, rr_laws_eqBoolS, bl, ↓XD, XU, ↓reduceIte, sevalprocAttr, hl]
theorem el_eqBoolS_nil : EP A n_laws_eqBoolS [.nils, .nils] = some (.bool true) := by
  have hl : EV A (.loop (B_laws_eqBoolS 0)) (⟨[(0, .nils), (1, .nils), (4, .bool false), (5, .int .i64 0)], [], [], []⟩ : St) = some (AExit.exit 0, (⟨[(0, .nils), (1, .nils), (4, .bool false), (5, .int .i64 0)], [], [], []⟩ : St)) := by
    rw [EV_loop]
    simp -implicitDefEqProofs +contextual (disch := omega) only [ub_laws_eqBoolS_0, rr_laws_eqBoolS, ↓XD, XU, ↓reduceIte, sevalprocAttr]
  simp -implicitDefEqProofs +contextual (disch := omega) only [e_laws_eqBoolS, u_laws_eqBoolS, rr_laws_eqBoolS, ↓XD, XU, ↓reduceIte, sevalprocAttr, hl]
abbrev gMk (k : Int) (i : Int) (a : List Bool) : List Bool := a.set i.toNat (decide ((k + i).tmod 3 = 0))
def marked (k : Int) (l : List Bool) : List Bool := iter (fun (i : Int) (a : List Bool) => gMk k i a) ((l.length : Int) - 0).toNat 0 l
theorem marked_spec (k : Int) (l : List Bool) : (marked k l).length = l.length ∧ ∀ i : Int, 0 ≤ i → i < l.length → nth (marked k l) i = decide ((k + i).tmod 3 = 0) := by
  have := iter_inv (g := fun (i : Int) (a : List Bool) => gMk k i a) (fun i a => a.length = l.length ∧ ∀ j : Int, 0 ≤ j → j < i → nth a j = decide ((k + j).tmod 3 = 0)) 0 (l.length : Int) (by
    rintro i a h1 h2 ⟨h3, h4⟩
    refine ⟨by simpa [gMk] using h3, fun j j0 j1 => ?_⟩
    rw [gMk, nth_set h1 (by omega) j0]
    by_cases e : i = j
    · rw [if_pos e, e]
    · rw [if_neg e]; exact h4 j j0 (by omega)) (a := l) (by omega) ⟨rfl, fun j j0 j1 => by omega⟩
  exact this
theorem lm_Bool (H : Heap) (g n : Nat) (k : Int) (hk : 0 ≤ k) (hk2 : k ≤ 1000) (hn : n ≤ 1048576) (q2 : ∀ b, (H.set g b)[g]? = some b) (a0 : List Bool) (hok0 : a0.length = n) : EV A (.loop (B_laws_markBoolS 0)) (⟨[(0, .sl g 0 n n), (1, .int .i64 (k + (0))), (4, .int .i64 0), (5, .int .i64 (0))], [], H.set g (.cells 1 (bl a0)), []⟩ : St) = some (AExit.exit 0, (⟨[(0, .sl g 0 n n), (1, .int .i64 (k + (n))), (4, .int .i64 0), (5, .int .i64 (n))], [], H.set g (.cells 1 (bl (iter (fun (i : Int) (a : List Bool) => gMk k i a) ((n : Int) - 0).toNat (0) a0))), []⟩ : St)) ∧ (iter (fun (i : Int) (a : List Bool) => gMk k i a) ((n : Int) - 0).toNat (0) a0).length = n := by
  refine loop_iter (fun i (a : List Bool) => (⟨[(0, .sl g 0 n n), (1, .int .i64 (k + i)), (4, .int .i64 0), (5, .int .i64 i)], [], H.set g (.cells 1 (bl a)), []⟩ : St)) (fun (i : Int) (a : List Bool) => gMk k i a) (fun i (a : List Bool) => a.length = n) (fun a => (AExit.exit 0, (⟨[(0, .sl g 0 n n), (1, .int .i64 (k + (n))), (4, .int .i64 0), (5, .int .i64 (n))], [], H.set g (.cells 1 (bl a)), []⟩ : St))) (0) (n) ?_ ?_ (0) a0 (by omega) (by omega) hok0
  · intro i a hi hn hok
    refine ⟨⟨_, by simp -implicitDefEqProofs +contextual (disch := omega) only [ub_laws_markBoolS_0, rr_laws_markBoolS, ↓XD, XU, ↓reduceIte, sevalprocAttr, bl, q2, List.set_set, gMk, hn, hok]; rfl, by first | (simp [St.next, trim_all, gMk, bl, Int.add_assoc]; done) | (simp [St.next, trim_all, gMk, bl, Int.add_assoc]; omega) | (simp [St.next, trim, bare, refsL, refs, gMk, bl, Int.add_assoc]; done)⟩, by simpa [gMk] using hok⟩
  · rintro i a hi rfl hok
    refine ⟨by simp -implicitDefEqProofs +contextual (disch := omega) only [ub_laws_markBoolS_0, rr_laws_markBoolS, ↓XD, XU, ↓reduceIte, sevalprocAttr, bl, q2, List.set_set, gMk, Int.lt_irrefl, hok], by simp⟩
theorem es_markBoolS (H : Heap) (g n : Nat) (k : Int) (hk : 0 ≤ k) (hk2 : k ≤ 1000) (hn : n ≤ 1048576) (l : List Bool) (hl : l.length = n) (h : H[g]? = some (.cells 1 (bl l))) : ES A n_laws_markBoolS [.sl g 0 n n, .int .i64 k] H = some (.int .i64 (k + n), H.set g (.cells 1 (bl (marked k l))), []) := by
  have hg : g < H.length := (List.getElem?_eq_some_iff.1 h).1
  have h1 := (lm_Bool H g n k hk hk2 hn (fun b => List.getElem?_set_self hg) l hl).1
  have e : iter (fun (i : Int) (a : List Bool) => gMk k i a) ((n : Int) - 0).toNat 0 l = marked k l := by rw [marked, hl]
  rw [e, set_same h, Int.add_zero] at h1
  simp -implicitDefEqProofs +contextual (disch := omega) only [s_laws_markBoolS, u_laws_markBoolS, rr_laws_markBoolS, ↓XD, XU, ↓reduceIte, sevalprocAttr, h1]
  rw [trim_len0 _ _ _ (by simp)]
theorem es_markBoolS_nil (H : Heap) (k : Int) : ES A n_laws_markBoolS [.nils, .int .i64 k] H = some (.int .i64 k, H, []) := by
  have hl : EV A (.loop (B_laws_markBoolS 0)) (⟨[(0, .nils), (1, .int .i64 k), (4, .int .i64 0), (5, .int .i64 0)], [], H, []⟩ : St) = some (AExit.exit 0, (⟨[(0, .nils), (1, .int .i64 k), (4, .int .i64 0), (5, .int .i64 0)], [], H, []⟩ : St)) := by
    rw [EV_loop]
    simp -implicitDefEqProofs +contextual (disch := omega) only [ub_laws_markBoolS_0, rr_laws_markBoolS, ↓XD, XU, ↓reduceIte, sevalprocAttr]
  simp -implicitDefEqProofs +contextual (disch := omega) only [s_laws_markBoolS, u_laws_markBoolS, rr_laws_markBoolS, ↓XD, XU, ↓reduceIte, sevalprocAttr, hl]
  rw [trim_len0 _ _ _ rfl]
theorem lh_Bool (l : List Bool) (k : Int) (hk : 0 ≤ k) (hk2 : k ≤ 1000) (hb : l.length ≤ 1048576) (hm : ∀ i : Int, 0 ≤ i → i < l.length → nth l i = decide ((k + i).tmod 3 = 0)) (a0 : Unit) (hok0 : True) : EV A (.loop (B_laws_heldBoolS 0)) (⟨[(0, .fz (bl l)), (1, .int .i64 (k + (0))), (4, .int .i64 0), (5, .int .i64 (0))], [], [], []⟩ : St) = some (AExit.exit 0, (⟨[(0, .fz (bl l)), (1, .int .i64 (k + (l.length))), (4, .int .i64 0), (5, .int .i64 (l.length))], [], [], []⟩ : St)) ∧ True := by
  refine loop_iter (fun i (a : Unit) => (⟨[(0, .fz (bl l)), (1, .int .i64 (k + i)), (4, .int .i64 0), (5, .int .i64 i)], [], [], []⟩ : St)) (fun (i : Int) (a : Unit) => a) (fun i (a : Unit) => True) (fun a => (AExit.exit 0, (⟨[(0, .fz (bl l)), (1, .int .i64 (k + (l.length))), (4, .int .i64 0), (5, .int .i64 (l.length))], [], [], []⟩ : St))) (0) (l.length) ?_ ?_ (0) a0 (by omega) (by omega) hok0
  · intro i a hi hn hok
    have hm1 := hm i hi hn
    refine ⟨⟨_, by simp -implicitDefEqProofs +contextual (disch := omega) only [ub_laws_heldBoolS_0, rr_laws_heldBoolS, ↓XD, XU, ↓reduceIte, sevalprocAttr, bl, hm1, hn, hok]; rfl, by first | (simp [St.next, trim_all, Int.add_assoc]; done) | (simp [St.next, trim_all, Int.add_assoc]; omega) | (simp [St.next, trim, bare, refsL, refs, Int.add_assoc]; done)⟩, by trivial⟩
  · rintro i a hi rfl hok
    refine ⟨by simp -implicitDefEqProofs +contextual (disch := omega) only [ub_laws_heldBoolS_0, rr_laws_heldBoolS, ↓XD, XU, ↓reduceIte, sevalprocAttr, bl, Int.lt_irrefl, hok], by simp⟩
theorem el_heldBoolS (l : List Bool) (k : Int) (hk : 0 ≤ k) (hk2 : k ≤ 1000) (hb : l.length ≤ 1048576) (hm : ∀ i : Int, 0 ≤ i → i < l.length → nth l i = decide ((k + i).tmod 3 = 0)) : EP A n_laws_heldBoolS [.fz (bl l), .int .i64 k] = some (.int .i64 (k + l.length)) := by
  have hl := (lh_Bool l k hk hk2 hb hm () trivial).1
  rw [Int.add_zero] at hl
  simp only [bl] at hl
  simp -implicitDefEqProofs +contextual (disch := omega) only [e_laws_heldBoolS, u_laws_heldBoolS, rr_laws_heldBoolS, bl, ↓XD, XU, ↓reduceIte, sevalprocAttr, hl]
theorem el_heldBoolS_nil (k : Int) : EP A n_laws_heldBoolS [.nils, .int .i64 k] = some (.int .i64 k) := by
  have hl : EV A (.loop (B_laws_heldBoolS 0)) (⟨[(0, .nils), (1, .int .i64 k), (4, .int .i64 0), (5, .int .i64 0)], [], [], []⟩ : St) = some (AExit.exit 0, (⟨[(0, .nils), (1, .int .i64 k), (4, .int .i64 0), (5, .int .i64 0)], [], [], []⟩ : St)) := by
    rw [EV_loop]
    simp -implicitDefEqProofs +contextual (disch := omega) only [ub_laws_heldBoolS_0, rr_laws_heldBoolS, ↓XD, XU, ↓reduceIte, sevalprocAttr]
  simp -implicitDefEqProofs +contextual (disch := omega) only [e_laws_heldBoolS, u_laws_heldBoolS, rr_laws_heldBoolS, ↓XD, XU, ↓reduceIte, sevalprocAttr, hl]
theorem es_toUnit (o : Option (List RFn)) (hb : (ol o).length ≤ 1048576) (hs : ∀ i : Int, FnS (nth (ol o) i)) : (∃ (id n : Nat) (X : Heap) (ed : Edges), ES A n_laws_toUnit [.agg (runit o)] [] = some (.agg [.sl id 0 n n], X, ed) ∧ WT X (fun j => j < X.length) (.slice sh_FnS) (.sl id 0 n n) ∧ ∀ d, 4 ≤ d → frz d X (.sl id 0 n n) = fns ((ol o).map RFn.to)) ∧ EP A n_laws_toUnit [.agg (runit o)] = some (unit ((ol o).map RFn.to)) := by
  obtain ⟨a, n, X, ed, g, w, z⟩ := es_toFnS o hb hs
  have hz : PV.fz ((ol o).map fun n => n.norm.cells) = fns ((ol o).map RFn.to) := by
    simp only [fns, List.map_map]
    congr 1
    exact List.map_congr_left fun f _ => norm_fn f
  rw [hz] at z
  have key : ∀ b0 b1 b2 : Blk, (∀ id, id < X.length → (b0 :: b1 :: b2 :: X.map (lendB 3))[3 + id]? = (X[id]?).map (lendB 3)) := fun b0 b1 b2 id hid => by
    have := get_mid [b0, b1, b2] X [] 3 rfl id hid
    simpa using this
  have hf : ∀ (b0 b1 b2 : Blk) (d : Nat), 4 ≤ d → frz d (b0 :: b1 :: b2 :: X.map (lendB 3)) (.sl (3 + a) 0 n n) = fns ((ol o).map RFn.to) := fun b0 b1 b2 d hd => by
    have := WT.frz_lend (key b0 b1 b2) w d
    rw [lendV] at this
    rw [this, z d hd]
  constructor
  · obtain ⟨b0, b1, b2, ed', hE⟩ : ∃ (b0 b1 b2 : Blk) (ed' : Edges), ES A n_laws_toUnit [.agg (runit o)] [] = some (.agg [.sl (3 + a) 0 n n], b0 :: b1 :: b2 :: X.map (lendB 3), ed') := by
      have ht : ∀ (H : Heap) (ed : Edges), trim 0 [.agg [.sl (3 + a) 0 n n]] H ed = (H, ed) := fun H ed => trim_zero _ _ _ (by simp [refsL, refs])
      exact ⟨_, _, _, _, by (simp -implicitDefEqProofs +contextual (disch := omega) only [s_laws_toUnit, u_laws_toUnit, rr_laws_toUnit, runit, frz_osl, refs_osl, isLeaf_osl, cellsOf_osl, List.cons_append, List.nil_append, ↓XD, XU, ↓reduceIte, sevalprocAttr, g, ht]) <;> rfl⟩
    refine ⟨_, _, _, _, hE, ?_, fun d hd => hf _ _ _ d hd⟩
    have := WT.lend (key b0 b1 b2) w
    rw [lendV] at this
    refine this.frame fun j hj => ⟨?_, rfl⟩
    obtain ⟨id, rfl, hid⟩ := hj
    simp; omega
  · have hf7 := fun b0 b1 b2 => hf b0 b1 b2 7 (by omega)
    simp -implicitDefEqProofs +contextual (disch := omega) only [e_laws_toUnit, u_laws_toUnit, rr_laws_toUnit, runit, frz_osl, refs_osl, isLeaf_osl, cellsOf_osl, List.cons_append, List.nil_append, ↓XD, XU, ↓reduceIte, sevalprocAttr, g, hf7]
theorem es_markUnit (R : Nat → Prop) (H : Heap) (p : PV) (k : Int) (hw : WT H R (.slice sh_FnS) p) (h0 : 0 ≤ k) (h1 : k ≤ 1000) : ∃ (k' : Int) (H' : Heap), ES A n_laws_markUnit [.agg [p], .int .i64 k] H = some (.int .i64 k', H', []) ∧ H'.length = H.length ∧ (∀ id, ¬R id → H'[id]? = H[id]?) ∧ 0 ≤ k' := by
  obtain ⟨id, n, rfl⟩ : ∃ id n, p = .sl id 0 n n := by simp only [WT] at hw; obtain ⟨id, n, _, rfl, _⟩ := hw; exact ⟨id, n, rfl⟩
  have hw1 : WT (H ++ [.cells 1 [[.sl id 0 n n]]]) (fun j => R j ∧ j < H.length) (.slice sh_FnS) (.sl id 0 n n) := by
    refine WT.frame (R := fun j => R j ∧ j < H.length) (fun j hj => ⟨hj, List.getElem?_append_left hj.2⟩) ?_
    exact WT.inside hw
  obtain ⟨k', H', e, a1, a2, a3, a4⟩ := mk_FnS _ _ _ k hw1 h0 (by omega)
  have hlen := a1.1
  simp only [List.length_append, List.length_cons, List.length_nil] at hlen
  have qb : ∀ b : Blk, (H ++ [b])[H.length]? = some b := fun b => by simp
  have ht : trim H.length [.int .i64 k'] H' [] = (H'.take H.length, []) := by simp [trim, bare, refsL, refs]
  refine ⟨k', H'.take H.length, ?_, by simp; omega, fun j hj => ?_, by omega⟩
  · simp -implicitDefEqProofs +contextual (disch := omega) only [s_laws_markUnit, u_laws_markUnit, rr_laws_markUnit, qb, ↓XD, XU, ↓reduceIte, sevalprocAttr, e, ht]
  · rw [List.getElem?_take]
    split
    · rename_i h
      rw [a2 j (fun h => hj h.1), List.getElem?_append_left h]
    · rename_i h
      rw [List.getElem?_eq_none (by omega)]
theorem el_lawCap (o : Option (List RFn)) (f : Int) (hb : (ol o).length ≤ 9223372036854775807) (hs : ∀ i : Int, FnB (nth (ol o) i)) : EP A n_laws_FnExactCaptured [.agg (runit o), .int .i64 f] = some (.bool true) := by
  have g1 := el_szUnit o hb hs
  by_cases c : (1048576 : Int) < szFns (ol o)
  · rw [rest, if_pos c] at g1
    simp -implicitDefEqProofs +contextual (disch := omega) only [e_laws_FnExactCaptured, u_laws_FnExactCaptured, rr_laws_FnExactCaptured, runit, lenV_osl, frz_osl, refs_osl, isLeaf_osl, cellsOf_osl, ↓XD, XU, ↓reduceIte, sevalprocAttr, g1]
  · rw [rest, if_neg c] at g1
    have hz : szFns (ol o) ≤ 1048576 := by omega
    have hl := szFns_len hz
    have hS := sizedF_to hz
    obtain ⟨⟨id, n, X, edx, gx, wx, zx⟩, g2⟩ := es_toUnit o hl.1 (szFns_s hz)
    have hl2 : ((ol o).map RFn.to).length ≤ 1048576 := by simpa using hl.1
    have e : ¬1048576 - szFns (ol o) < 0 := by omega
    have g6 := el_eqUnit _ hl2 hS
    have hid : id < X.length := by simp only [WT] at wx; obtain ⟨i', n', _, e', h, _⟩ := wx; cases e'; exact h
    obtain ⟨T, hT⟩ : ∃ T : Heap, List.map (lendB 1) X = T := ⟨_, rfl⟩
    obtain ⟨N, hN⟩ : ∃ N, X.length = N := ⟨_, rfl⟩
    have hTN : T.length = N := by rw [← hT, ← hN]; simp
    have key : ∀ (b : Blk) (Y : Heap) (j : Nat), j < X.length → (b :: (T ++ Y))[1 + j]? = (X[j]?).map (lendB 1) := fun b Y j hj => by
      have := get_mid [b] X Y 1 rfl j hj
      rw [hT] at this
      simpa using this
    have hw : ∀ (b : Blk) (Y : Heap), WT (b :: (T ++ Y)) (fun j => 1 ≤ j ∧ j < 1 + N) (.slice sh_FnS) (.sl (1 + id) 0 n n) := fun b Y => by
      have := WT.lend (key b Y) wx
      rw [lendV] at this
      refine this.frame fun j hj => ⟨?_, rfl⟩
      obtain ⟨j', rfl, hj'⟩ := hj
      omega
    have hfz : ∀ (b : Blk) (Y : Heap), frz 7 (b :: (T ++ Y)) (.sl (1 + id) 0 n n) = fns ((ol o).map RFn.to) := fun b Y => by
      have := WT.frz_lend (key b Y) wx 7
      rw [lendV] at this
      rw [this, zx 7 (by omega)]
    have q1 : ∀ (b : Blk) (Y : Heap), (T ++ b :: Y)[N]? = some b := fun b Y => by rw [← hTN, List.getElem?_append_right (Nat.le_refl _)]; simp
    have q2 : ∀ (b b' : Blk) (Y : Heap), (T ++ b :: Y).set N b' = T ++ b' :: Y := fun b b' Y => by rw [← hTN, List.set_append, if_neg (Nat.lt_irrefl _), Nat.sub_self, List.set_cons_zero]
    have hB : ∀ (k : Nat) (l : List Bool), lendB k (.cells 1 (bl l)) = .cells 1 (bl l) := fun k l => by simp only [lendB, bl_lend]
    by_cases hc : capOk ((ol o).map RFn.to) f
    · have g3 := ep_Captured_ok _ f hl2 hl.2 hS hc
      obtain ⟨⟨c0, c1, c2, g4⟩, g5, hcl⟩ := es_Captured_ok _ f hl2 hl.2 hS hc
      have hm := (hS f).1
      generalize capt ((ol o).map RFn.to) f = cl at *
      generalize (nth ((ol o).map RFn.to) f).Vars.length = m at *
      have g7 := el_eqBoolS cl (by omega)
      obtain ⟨G, hG⟩ : ∃ G : Heap, G = .cells 1 [[osl RFn.cells o]] :: (T ++ .cells 1 [[.sl (1 + id) 0 n n]] :: lendB (N + 1 + 1) c0 :: lendB (N + 1 + 1) c1 :: lendB (N + 1 + 1) c2 :: .cells 1 (bl cl) :: []) := ⟨_, rfl⟩
      have hg5 : G[N + 1 + 1 + 3]? = some (.cells 1 (bl cl)) := by
        rw [hG, show N + 1 + 1 + 3 = (N + 4) + 1 by omega, List.getElem?_cons_succ, List.getElem?_append_right (by omega), hTN, show N + 4 - N = 4 by omega]; rfl
      have hg0 : G[0]? = some (.cells 1 [[osl RFn.cells o]]) := by rw [hG]; rfl
      have hzG := frz_bl 6 G (N + 1 + 1 + 3) 1 cl m hg5 hcl
      obtain ⟨k', H', g8, hlen, hfr, hk'⟩ := es_markUnit _ G _ 1 (by rw [hG]; exact hw _ _) (by omega) (by omega)
      have hh5 : H'[N + 1 + 1 + 3]? = some (.cells 1 (bl cl)) := by rw [hfr _ (by omega), hg5]
      have hh0 : H'[0]? = some (.cells 1 [[osl RFn.cells o]]) := by rw [hfr _ (by omega), hg0]
      have hzH := frz_bl 6 H' (N + 1 + 1 + 3) 1 cl m hh5 hcl
      have g9 := es_markBoolS H' (N + 1 + 1 + 3) m 1 (by omega) (by omega) hm cl hcl hh5
      have hlt : N + 1 + 1 + 3 < H'.length := (List.getElem?_eq_some_iff.1 hh5).1
      obtain ⟨m1, m2⟩ := marked_spec 1 cl
      have hzM := frz_bl 6 (H'.set (N + 1 + 1 + 3) (.cells 1 (bl (marked 1 cl)))) (N + 1 + 1 + 3) 1 (marked 1 cl) m (List.getElem?_set_self hlt) (by omega)
      have g10 := el_heldBoolS (marked 1 cl) 1 (by omega) (by omega) (by omega) (fun i i0 i1 => m2 i i0 (by omega))
      rw [show (marked 1 cl).length = m by omega] at g10
      have hs0 : (H'.set (N + 1 + 1 + 3) (.cells 1 (bl (marked 1 cl))))[0]? = some (.cells 1 [[osl RFn.cells o]]) := by rw [List.getElem?_set_ne (by omega), hh0]
      have hk'' : ¬k' < 0 := by omega
      have hm0 : ¬(1 + (m : Int)) < 0 := by omega
      rw [hG] at hzG g8
      simp only [unit, fns] at g2 g3 g4 g5 g6 hfz
      simp -implicitDefEqProofs +contextual (disch := omega) only [e_laws_FnExactCaptured, u_laws_FnExactCaptured, rr_laws_FnExactCaptured, ↓hB, ↓hT, hN, hTN, q1, q2, List.set_cons_succ, runit, lenV_osl, frz_osl, refs_osl, isLeaf_osl, cellsOf_osl, List.cons_append, List.nil_append, List.append_assoc, List.length_append, List.length_map, ↓XD, XU, ↓reduceIte, sevalprocAttr, g1, g2, g3, g4, g5, g6, g7, g8, g9, g10, gx, e, hfz, hzG, hzH, hzM, hs0, hk'', hm0]
    · have g3 := ep_Captured_no _ f hl2 hl.2 hS hc
      obtain ⟨g4, g5⟩ := es_Captured_no _ f hl2 hl.2 hS hc
      have g7 := el_eqBoolS_nil
      have g9 := fun H k => es_markBoolS_nil H k
      have g10 := el_heldBoolS_nil 1
      obtain ⟨G, hG⟩ : ∃ G : Heap, G = .cells 1 [[osl RFn.cells o]] :: (T ++ [.cells 1 [[.sl (1 + id) 0 n n]]]) := ⟨_, rfl⟩
      have hg0 : G[0]? = some (.cells 1 [[osl RFn.cells o]]) := by rw [hG]; rfl
      obtain ⟨k', H', g8, hlen, hfr, hk'⟩ := es_markUnit _ G _ 1 (by rw [hG]; exact hw _ _) (by omega) (by omega)
      have hh0 : H'[0]? = some (.cells 1 [[osl RFn.cells o]]) := by rw [hfr _ (by omega), hg0]
      have hk'' : ¬k' < 0 := by omega
      rw [hG] at g8
      simp only [unit, fns] at g2 g3 g4 g5 g6 hfz
      simp -implicitDefEqProofs +contextual (disch := omega) only [e_laws_FnExactCaptured, u_laws_FnExactCaptured, rr_laws_FnExactCaptured, ↓hT, hN, hTN, q1, q2, List.set_cons_succ, runit, lenV_osl, frz_osl, refs_osl, isLeaf_osl, cellsOf_osl, List.cons_append, List.nil_append, List.append_nil, List.append_assoc, List.length_append, List.length_map, List.map_nil, ↓XD, XU, ↓reduceIte, sevalprocAttr, g1, g2, g3, g4, g5, g6, g7, g8, g9, g10, gx, e, hfz, hh0, hk'']
end Go.Proofs.Try.Av
end
section
namespace Go.Proofs.Try.Av
open Go Go.Av Classical
theorem okRow_cons {s : Sh} {ss : List Sh} {r : List PV} (h : OkRow (s :: ss) r) : ∃ p ps, r = p :: ps ∧ Ok s p ∧ OkRow ss ps := by
  obtain ⟨h1, h2⟩ := h
  cases r with
  | nil => simp at h1
  | cons p ps => exact ⟨p, ps, rfl, h2 0 s p rfl rfl, by simpa using h1, fun i s' p' e1 e2 => h2 (i + 1) s' p' e1 e2⟩
theorem okRow_nil {r : List PV} (h : OkRow [] r) : r = [] := List.length_eq_zero_iff.1 h.1
theorem dec_slice {α : Type} (f : α → List PV) (good : α → Prop) (es : List Sh) (h : ∀ r, OkRow es r → ∃ x, r = f x ∧ good x) {p : PV} (hp : Ok (.slice es) p) : ∃ o : Option (List α), p = osl f o ∧ (ol o).length ≤ 9223372036854775807 ∧ ∀ x ∈ ol o, good x := by
  cases hp with
  | nils => exact ⟨none, rfl, by simp, by simp⟩
  | fz _ rows hl hs hk =>
    have hm : (maxLen : Nat) = 9223372036854775807 := by decide
    have : ∀ rows : List (List PV), (∀ r ∈ rows, OkRow es r) → ∃ l : List α, rows = l.map f ∧ ∀ x ∈ l, good x := by
      intro rows
      induction rows with
      | nil => exact fun _ => ⟨[], rfl, by simp⟩
      | cons r rows ih =>
        intro hr
        obtain ⟨l, e, hg⟩ := ih fun r hr' => hr r (List.mem_cons_of_mem _ hr')
        obtain ⟨x, e2, hx⟩ := h r (hr r (List.mem_cons_self ..))
        exact ⟨x :: l, by rw [List.map_cons, e, e2], by simpa using ⟨hx, hg⟩⟩
    obtain ⟨l, e, hg⟩ := this rows fun r hr => ⟨hs r hr, hk r hr⟩
    refine ⟨some l, by rw [e]; rfl, ?_, hg⟩
    have : rows.length = l.length := by rw [e, List.length_map]
    show l.length ≤ _
    omega
theorem dec_int {k : IntKind} {p : PV} (h : Ok (.int k) p) : ∃ n, p = .int k n := by cases h; exact ⟨_, rfl⟩
theorem dec_bool {p : PV} (h : Ok .bool p) : ∃ n, p = .bool n := by cases h; exact ⟨_, rfl⟩
theorem dec_flt {k : FloatKind} {p : PV} (h : Ok (.flt k) p) : ∃ n, p = .flt k n := by cases h; exact ⟨_, rfl⟩
theorem dec_str {p : PV} (h : Ok .str p) : ∃ s : ByteArray, p = .str s ∧ s.size ≤ 9223372036854775807 := by
  cases h with
  | str s h => exact ⟨s, rfl, h⟩
theorem dec_ints {p : PV} (h : Ok (.slice [.int .i64]) p) : ∃ o : Option (List Int), p = osl iv o ∧ (ol o).length ≤ 9223372036854775807 := by
  obtain ⟨o, e, hl, _⟩ := dec_slice iv (fun _ => True) _ (fun r hr => by
    obtain ⟨a, _, rfl, ha, k1⟩ := okRow_cons hr
    obtain ⟨n, rfl⟩ := dec_int ha
    rw [okRow_nil k1]; exact ⟨n, rfl, trivial⟩) h
  exact ⟨o, e, hl⟩
theorem dec_strs {p : PV} (h : Ok (.slice [.str]) p) : ∃ o : Option (List ByteArray), p = osl sv o ∧ (ol o).length ≤ 9223372036854775807 ∧ ∀ s ∈ ol o, s.size ≤ 9223372036854775807 :=
  dec_slice sv (fun s => s.size ≤ 9223372036854775807) _ (fun r hr => by
    obtain ⟨a, _, rfl, ha, k1⟩ := okRow_cons hr
    obtain ⟨n, rfl, hn⟩ := dec_str ha
    rw [okRow_nil k1]; exact ⟨n, rfl, hn⟩) h
theorem dec_ups {p : PV} (h : Ok (.slice [.bool, .int .i64]) p) : ∃ o : Option (List Up), p = osl Up.cells o ∧ (ol o).length ≤ 9223372036854775807 := by
  obtain ⟨o, e, hl, _⟩ := dec_slice Up.cells (fun _ => True) _ (fun r hr => by
    obtain ⟨a, _, rfl, ha, k1⟩ := okRow_cons hr
    obtain ⟨b, _, rfl, hb, k2⟩ := okRow_cons k1
    obtain ⟨x, rfl⟩ := dec_bool ha
    obtain ⟨y, rfl⟩ := dec_int hb
    rw [okRow_nil k2]; exact ⟨⟨x, y⟩, rfl, trivial⟩) h
  exact ⟨o, e, hl⟩
def shNode : List Sh := [.int .i64, .int .i64, .int .i64, .int .i64, .flt .f64, .str, .slice [.int .i64], .slice [.int .i64]]
def shFn : List Sh := [.str, .int .i64, .int .i64, .bool, .slice [.str], .slice [.bool, .int .i64], .slice shNode]
def shUnit : List Sh := [.slice shFn]
theorem dec_node {r : List PV} (hr : OkRow shNode r) : ∃ n : RNode, r = n.cells ∧ NodeB n := by
  obtain ⟨a1, _, rfl, h1, k1⟩ := okRow_cons hr
  obtain ⟨a2, _, rfl, h2, k2⟩ := okRow_cons k1
  obtain ⟨a3, _, rfl, h3, k3⟩ := okRow_cons k2
  obtain ⟨a4, _, rfl, h4, k4⟩ := okRow_cons k3
  obtain ⟨a5, _, rfl, h5, k5⟩ := okRow_cons k4
  obtain ⟨a6, _, rfl, h6, k6⟩ := okRow_cons k5
  obtain ⟨a7, _, rfl, h7, k7⟩ := okRow_cons k6
  obtain ⟨a8, _, rfl, h8, k8⟩ := okRow_cons k7
  obtain ⟨x1, rfl⟩ := dec_int h1
  obtain ⟨x2, rfl⟩ := dec_int h2
  obtain ⟨x3, rfl⟩ := dec_int h3
  obtain ⟨x4, rfl⟩ := dec_int h4
  obtain ⟨x5, rfl⟩ := dec_flt h5
  obtain ⟨x6, rfl, b6⟩ := dec_str h6
  obtain ⟨x7, rfl, b7⟩ := dec_ints h7
  obtain ⟨x8, rfl, b8⟩ := dec_ints h8
  rw [okRow_nil k8]
  exact ⟨⟨x1, x2, x3, x4, x5, x6, x7, x8⟩, rfl, ⟨b6, b7, b8⟩⟩
theorem nodeB_def : NodeB default := ⟨by decide, by decide, by decide⟩
theorem dec_fn {r : List PV} (hr : OkRow shFn r) : ∃ f : RFn, r = f.cells ∧ FnB f := by
  obtain ⟨a1, _, rfl, h1, k1⟩ := okRow_cons hr
  obtain ⟨a2, _, rfl, h2, k2⟩ := okRow_cons k1
  obtain ⟨a3, _, rfl, h3, k3⟩ := okRow_cons k2
  obtain ⟨a4, _, rfl, h4, k4⟩ := okRow_cons k3
  obtain ⟨a5, _, rfl, h5, k5⟩ := okRow_cons k4
  obtain ⟨a6, _, rfl, h6, k6⟩ := okRow_cons k5
  obtain ⟨a7, _, rfl, h7, k7⟩ := okRow_cons k6
  obtain ⟨x1, rfl, b1⟩ := dec_str h1
  obtain ⟨x2, rfl⟩ := dec_int h2
  obtain ⟨x3, rfl⟩ := dec_int h3
  obtain ⟨x4, rfl⟩ := dec_bool h4
  obtain ⟨x5, rfl, b5, c5⟩ := dec_strs h5
  obtain ⟨x6, rfl, b6⟩ := dec_ups h6
  obtain ⟨x7, rfl, b7, c7⟩ := dec_slice RNode.cells NodeB shNode (fun r hr => dec_node hr) h7
  rw [okRow_nil k7]
  exact ⟨⟨x1, x2, x3, x4, x5, x6, x7⟩, rfl, ⟨b1, b5, all_nth (p := fun s : ByteArray => s.size ≤ 9223372036854775807) (by decide) (fun i h0 h1 => c5 _ (nth_mem h0 h1)), b6, b7, all_nth nodeB_def (fun i h0 h1 => c7 _ (nth_mem h0 h1))⟩⟩
theorem fnB_def : FnB default := ⟨by decide, by decide, all_nth (p := fun s : ByteArray => s.size ≤ 9223372036854775807) (by decide) (fun i h0 h1 => by rw [show ol (default : RFn).Vars = [] from rfl] at h1; simp at h1; omega), by decide, by decide, all_nth nodeB_def (fun i h0 h1 => by rw [show ol (default : RFn).Nodes = [] from rfl] at h1; simp at h1; omega)⟩
theorem dec_unit {r : List PV} (hr : OkRow shUnit r) : ∃ o : Option (List RFn), r = runit o ∧ (ol o).length ≤ 9223372036854775807 ∧ ∀ i : Int, FnB (nth (ol o) i) := by
  obtain ⟨a1, _, rfl, h1, k1⟩ := okRow_cons hr
  obtain ⟨x, rfl, b, c⟩ := dec_slice RFn.cells FnB shFn (fun r hr => dec_fn hr) h1
  rw [okRow_nil k1]
  exact ⟨x, rfl, b, all_nth fnB_def (fun i h0 h1 => c _ (nth_mem h0 h1))⟩
end Go.Proofs.Try.Av
end
