/- What the functions that FnExactCheckUnit reaches compute, each by its equation. Conditions on sizes stand in each statement. -/
import Derived.Test.YtffiogaamojjeaaEp1
import Derived.Test.YtffiogaamojjeaaEp2
set_option linter.all false
section
attribute [local congr] ite_congr
set_option linter.unusedSimpArgs false
set_option linter.unusedVariables false
set_option maxRecDepth 10000
set_option maxHeartbeats 400000
namespace Go.Proofs.Try.Av
open Go Go.Av Classical
theorem sub_iff (ns : List Node) (n m : Int) : Sub ns n m ↔ m = n ∨ ∃ j : Int, 0 ≤ j ∧ j < (nth ns n).Kids.length ∧ Sub ns (nth (nth ns n).Kids j) m := by
  constructor
  · intro h
    cases h with
    | self => exact .inl rfl
    | kid j0 j1 h => exact .inr ⟨_, j0, j1, h⟩
  · rintro (h | ⟨j, j0, j1, h⟩)
    · subst h; exact .self _
    · exact .kid j0 j1 h
section
variable {f : Fn} {sid iid cid base g : Nat} {caps : List PV} (S : See f sid iid cid base g caps)
theorem Fr.fin {H0 H : Heap} {ed : Edges} {inn : List Bool} {V V0 : Int → Prop} (h : Fr cid iid H0 H ed inn) (hi : H0[iid]? = some (.cells 1 (bl inn))) (hA0 : S.Acc V0 H0) (hA : S.Acc V H) (hb : base ≤ H0.length) (roots : List PV) :
    Step cid H0 (trim H0.length roots H ed).1 (trim H0.length roots H ed).2 ∧ S.Acc V (trim H0.length roots H ed).1 := by
  have hc := h.cut S hA0 hA hb H0.length (Nat.le_refl _) h.len roots
  refine ⟨⟨hc.1.len, fun id h1 h2 => ?_, hc.1.fw, hc.1.bd⟩, hc.2.1⟩
  by_cases he : id = iid
  · subst he; rw [hc.1.inn, hi]
  · exact hc.1.same id h1 h2 he
structure Pro (H0 H1 : Heap) (e1 : Edges) (n : Int) (lp : Bool) (inn : List Bool) (V : Int → Prop) : Prop where
  he : ES A g (.int .i64 n :: .sl iid 0 f.Vars.length f.Vars.length :: .bool lp :: caps) (H0 ++ [.cells 1 [[.ptr sid 0 0 1]], .cells 8 [(nth f.Nodes n).cells]]) = some (.tup [], H1, e1)
  s0 : ∀ l, (H0 ++ l)[sid]? = some (.cells 9 [scell f iid (.fn g caps)])
  q0 : H1[sid]? = some (.cells 9 [scell f iid (.fn g caps)])
  q00 : H1[H0.length]? = some (.cells 1 [[.ptr sid 0 0 1]])
  q1 : ∀ l, (H1 ++ l)[sid]? = some (.cells 9 [scell f iid (.fn g caps)])
  q2 : ∀ l, (H1 ++ l)[H0.length]? = some (.cells 1 [[.ptr sid 0 0 1]])
  q3 : ∀ l, (H1 ++ l)[H0.length + 1]? = some (.cells 8 [(nth f.Nodes n).cells])
  r1 : rowsOf H1 (.sl iid 0 f.Vars.length f.Vars.length) = some (bl inn)
  r2 : sizeIs H1 1 (.sl iid 0 f.Vars.length f.Vars.length) = true
  nl : ¬H1.length + 1 < H1.length
  n1 : H0.length + 1 < H1.length
  kinv : KInv S [(H1.length, .cells 1 (bl inn)), (H1.length + 1, .cells 1 [[.sl H1.length 0 f.Vars.length f.Vars.length]])] H0 (nth f.Nodes n) n inn V 0 (H1 ++ [.cells 1 (bl inn), .cells 1 [[.sl H1.length 0 f.Vars.length f.Vars.length]]]) e1
theorem walk_pro (n : Int) (n0 : 0 ≤ n) (n1 : n < f.Nodes.length) (lp : Bool) (inn : List Bool) (V : Int → Prop) (H0 : Heap) (hc : Ctx f n lp inn) (hb : base ≤ H0.length) (hP : S.Pre H0) (hs : H0[sid]? = some (.cells 9 [scell f iid (.fn g caps)])) (hi : H0[iid]? = some (.cells 1 (bl inn))) (hA : S.Acc V H0) : ∃ H1 e1, Pro S H0 H1 e1 n lp inn V := by
  have c1 := S.c1
  have i1 := S.i1
  have s1 := S.s1
  have hF0 : Fr cid iid H0 H0 [] inn := Fr.start hi
  obtain ⟨hF, hA2⟩ := hF0.app S hA hb [.cells 1 [[.ptr sid 0 0 1]], .cells 8 [(nth f.Nodes n).cells]] []
  rw [List.append_nil] at hF
  have hP2 : S.Pre (H0 ++ [.cells 1 [[.ptr sid 0 0 1]], .cells 8 [(nth f.Nodes n).cells]]) := S.pre H0 _ hP fun id h1 h2 h3 => hF.same id (by omega) h2 h3
  obtain ⟨H1, e1, he, hA3, hS⟩ := S.see n lp inn V _ n0 n1 hc (by rw [List.length_append]; omega) hP2 hF.inn hA2
  have hF3 := hF.step S hS hb
  rw [List.append_nil] at hF3
  have hl : (H0 ++ [Blk.cells 1 [[.ptr sid 0 0 1]], .cells 8 [(nth f.Nodes n).cells]]).length = H0.length + 2 := by simp
  have hl1 := hS.len
  rw [hl] at hl1
  have hq0 : H1[sid]? = some (.cells 9 [scell f iid (.fn g caps)]) := by rw [hS.same sid (by omega) (Ne.symm S.cs), List.getElem?_append_left (by omega), hs]
  have hq2 : H1[H0.length]? = some (.cells 1 [[.ptr sid 0 0 1]]) := by rw [hS.same _ (by omega) (by omega), app_get0]; rfl
  have hq3 : H1[H0.length + 1]? = some (.cells 8 [(nth f.Nodes n).cells]) := by rw [hS.same _ (by omega) (by omega), app_get]; rfl
  have hr := rows_of hF3.inn hc.len
  obtain ⟨hF4, hA4⟩ := hF3.app S hA3 hb [.cells 1 (bl inn), .cells 1 [[.sl H1.length 0 f.Vars.length f.Vars.length]]] []
  rw [List.nil_append] at hF4
  refine ⟨H1, e1, he, fun l => app_old _ _ hs, hq0, hq2, fun l => app_old _ _ hq0, fun l => app_old _ _ hq2, fun l => app_old _ _ hq3, hr.1, hr.2, by omega, by omega, hF4, app_old _ _ hq2, app_old _ _ hq3, fun p hp => by
    simp only [List.mem_cons, List.not_mem_nil, or_false] at hp
    rcases hp with rfl | rfl
    · exact ⟨by dsimp only; omega, by rw [app_get0]; rfl⟩
    · exact ⟨by dsimp only; omega, by rw [app_get]; rfl⟩, ?_⟩
  refine cast (congrArg (fun P => S.Acc P _) (funext fun m => propext ?_)) hA4
  exact ⟨.inl, fun h => h.elim id (fun ⟨j, j0, j1, _⟩ => by omega)⟩
theorem walk_default (hf : FnT f) (hb0 : f.Vars.length ≤ 1048576) (n : Int) (n0 : 0 ≤ n) (n1 : n < f.Nodes.length) (hK : ¬(nth f.Nodes n).Kind = 1 ∧ ¬(nth f.Nodes n).Kind = 7 ∧ ¬(nth f.Nodes n).Kind = 8 ∧ ¬(nth f.Nodes n).Kind = 6 ∧ ¬(nth f.Nodes n).Kind = 12)
    (hw : ∀ j : Int, 0 ≤ j → j < (nth f.Nodes n).Kids.length → WalkOk S (nth (nth f.Nodes n).Kids j)) : WalkOk S n := by
  intro lp inn V H0 hc hb hP hs hi hA
  obtain ⟨H1, e1, p⟩ := walk_pro S n n0 n1 lp inn V H0 hc hb hP hs hi hA
  obtain ⟨H', ed', el, hk⟩ := lw_kids S hf n n0 n1 lp inn V V H0 hb hA hP hs (.ptr (H0.length + 1) 0 0 1) (.ptr (H1.length + 1) 0 0 1) (.fn n_impl_scoper_walk_S1 [.ptr H0.length 0 0 1, .ptr (H1.length + 1) 0 0 1, .ptr (H0.length + 1) 0 0 1]) (.int .i64 (nth f.Nodes n).Kind) rfl
    (fun j j0 j1 => hc.same hf n0 n1 j0 j1 hK.1 (fun h => by omega)) hw _ _ _ p.kinv
  have hfin := hk.fr.fin S hi hA hk.acc hb []
  refine ⟨(trim H0.length [] H' ed').1, (trim H0.length [] H' ed').2, ?_, ?_, hfin.1⟩
  · have s0 := p.s0
    have q0 := p.q0
    have q1 := p.q1
    have q3 := p.q3
    have he := p.he
    simp only [scell, strs, ups, nodes] at s0 q1 q0
    simp only [Node.cells, ints] at q3 he
    have hlb : (bl inn).length * 1 ≤ 35184372088832 := by have := hc.len; simp; omega
    have ha := appendTo_nils H1 1 1 (bl inn) hlb
    have hl := hc.len
    simp only [ints] at el
    simp (maxSteps := 10000000) -implicitDefEqProofs +contextual (disch := omega) only [s_impl_scoper_walk, u_impl_scoper_walk, rr_impl_scoper_walk, scell, strs, ups, nodes, Node.cells, ints, ↓e_append, appK_some, ↓XD, XU, refs, goneIn, Nat.beq, Nat.ble, List.isEmpty, ↓reduceIte, sevalprocAttr, s0, he, q0, p.q00, q1, p.q2, q3, p.r1, p.r2, ha, hl, hK, p.nl, el]
  · refine cast (congrArg (fun P => S.Acc P _) (funext fun m => propext ?_)) hfin.2
    rw [sub_iff, or_assoc]
end
end Go.Proofs.Try.Av
end
section
attribute [local congr] ite_congr
set_option linter.unusedSimpArgs false
set_option linter.unusedVariables false
set_option maxRecDepth 10000
set_option maxHeartbeats 400000
namespace Go.Proofs.Try.Av
open Go Go.Av Classical
section
variable {f : Fn} {sid iid cid base g : Nat} {caps : List PV} (S : See f sid iid cid base g caps)
structure KB (own : List (Nat × Blk)) (H0 : Heap) (nd : Node) (inn : List Bool) (W : Int → Prop) (H : Heap) (ed : Edges) : Prop where
  fr : Fr cid iid H0 H ed inn
  bx : H[H0.length]? = some (.cells 1 [[.ptr sid 0 0 1]])
  nx : H[H0.length + 1]? = some (.cells 8 [nd.cells])
  ow : ∀ p ∈ own, H0.length ≤ p.1 ∧ H[p.1]? = some p.2
  acc : S.Acc W H
theorem KInv.kb {own : List (Nat × Blk)} {H0 H : Heap} {nd : Node} {n i : Int} {inn : List Bool} {V : Int → Prop} {ed : Edges} (h : KInv S own H0 nd n inn V i H ed) : KB S own H0 nd inn (fun m => (V m ∨ m = n) ∨ ∃ j : Int, 0 ≤ j ∧ j < i ∧ Sub f.Nodes (nth nd.Kids j) m) H ed := ⟨h.fr, h.bx, h.nx, h.ow, h.acc⟩
theorem KB.sets {own : List (Nat × Blk)} {H0 H : Heap} {nd : Node} {inn : List Bool} {W W' : Int → Prop} {ed : Edges} (h : KB S own H0 nd inn W H ed) (e : ∀ m, W m ↔ W' m) : KB S own H0 nd inn W' H ed := by
  have : W = W' := funext fun m => propext (e m)
  subst this; exact h
theorem KB.sc {own : List (Nat × Blk)} {H0 H : Heap} {nd : Node} {inn : List Bool} {W : Int → Prop} {ed : Edges} (h : KB S own H0 nd inn W H ed) (hb : base ≤ H0.length) (hs : H0[sid]? = some (.cells 9 [scell f iid (.fn g caps)])) : H[sid]? = some (.cells 9 [scell f iid (.fn g caps)]) := by
  rw [h.fr.same sid (by have := S.s1; omega) (Ne.symm S.cs) (Ne.symm S.is), hs]
theorem KB.walk {own : List (Nat × Blk)} {H0 H : Heap} {nd : Node} {inn : List Bool} {W : Int → Prop} {ed : Edges} (h : KB S own H0 nd inn W H ed) (hb : base ≤ H0.length) (hP : S.Pre H0) (hs : H0[sid]? = some (.cells 9 [scell f iid (.fn g caps)])) {k : Int} {lp : Bool} (hw : WalkOk S k) (hc : Ctx f k lp inn) :
    ∃ H' ed', ES A n_impl_scoper_walk [.ptr sid 0 0 1, .int .i64 k, .bool lp] H = some (.tup [], H', ed') ∧ KB S own H0 nd inn (fun m => W m ∨ Sub f.Nodes k m) H' (ed' ++ ed) := by
  have hl := h.fr.len
  have c1 := S.c1
  obtain ⟨H', ed', he, hA, hS⟩ := hw lp inn W H hc (by omega) (S.pre H0 H hP (fun id h1 h2 h3 => h.fr.same id (by omega) h2 h3)) (h.sc S hb hs) h.fr.inn h.acc
  have hb1 := some_lt h.bx
  have hb2 := some_lt h.nx
  exact ⟨H', ed', he, h.fr.step S hS hb, by rw [hS.same _ hb1 (by omega), h.bx], by rw [hS.same _ hb2 (by omega), h.nx], fun p hp => by
    obtain ⟨o1, o2⟩ := h.ow p hp
    exact ⟨o1, by rw [hS.same _ (some_lt o2) (by omega), o2]⟩, hA⟩
theorem KB.setin {own : List (Nat × Blk)} {H0 H : Heap} {nd : Node} {inn : List Bool} {W : Int → Prop} {ed : Edges} (h : KB S own H0 nd inn W H ed) (hb : base ≤ H0.length) (inn' : List Bool) : KB S own H0 nd inn' W (H.set iid (.cells 1 (bl inn'))) ed := by
  have i1 := S.i1
  have hl := h.fr.len
  have hne : ∀ id, id ≠ iid → (H.set iid (.cells 1 (bl inn')))[id]? = H[id]? := fun id hid => List.getElem?_set_ne (Ne.symm hid)
  refine ⟨⟨by simpa using hl, fun id h1 h2 h3 => by rw [hne id h3]; exact h.fr.same id h1 h2 h3, List.getElem?_set_self (by omega), fun b r hb2 hr => ?_, fun e he => by rw [List.length_set]; exact h.fr.bd e he⟩, by rw [hne _ (by omega)]; exact h.bx, by rw [hne _ (by omega)]; exact h.nx, fun p hp => ?_, ?_⟩
  · rw [hne cid S.ci] at hb2; exact h.fr.fw b r hb2 hr
  · obtain ⟨o1, o2⟩ := h.ow p hp
    exact ⟨o1, by rw [hne _ (by omega)]; exact o2⟩
  · refine S.stable W H _ h.acc (hne cid S.ci) fun b r hb2 hr => ?_
    obtain ⟨es, h3⟩ := S.maps W H h.acc b r hb2 hr
    refine hne r fun e => ?_
    rw [e, h.fr.inn] at h3; cases h3
theorem Pro.kb {H0 H1 : Heap} {e1 : Edges} {n : Int} {lp : Bool} {inn : List Bool} {V : Int → Prop} (p : Pro S H0 H1 e1 n lp inn V) : KB S [(H1.length, .cells 1 (bl inn)), (H1.length + 1, .cells 1 [[.sl H1.length 0 f.Vars.length f.Vars.length]])] H0 (nth f.Nodes n) inn (fun m => V m ∨ m = n) (H1 ++ [.cells 1 (bl inn), .cells 1 [[.sl H1.length 0 f.Vars.length f.Vars.length]]]) e1 :=
  (p.kinv.kb S).sets S fun m => ⟨fun h => h.elim id (fun ⟨j, j0, j1, _⟩ => by omega), .inl⟩
theorem KB.set_true {own : List (Nat × Blk)} {H0 H : Heap} {nd : Node} {inn : List Bool} {W : Int → Prop} {ed : Edges} (h : KB S own H0 nd inn W H ed) (hb : base ≤ H0.length) (hs : H0[sid]? = some (.cells 9 [scell f iid (.fn g caps)])) (hl : inn.length = f.Vars.length) (hv : f.Vars.length ≤ 1048576) (hr : nd.Refs.length ≤ 1048576) (m1 : Nat) :
    ES A n_impl_scoper_walk_S1 [.bool true, .ptr H0.length 0 0 1, .ptr m1 0 0 1, .ptr (H0.length + 1) 0 0 1] H = some (.tup [], H.set iid (.cells 1 (bl (addRefs f.Vars.length nd.Refs inn))), []) := by
  have i1 := S.i1
  exact es_set_true f sid iid H0.length m1 (H0.length + 1) (.fn g caps) nd H inn hv hl (h.sc S hb hs) h.fr.inn h.bx (Ne.symm S.is) (by omega) hr h.nx (by omega)
theorem KB.set_false {own : List (Nat × Blk)} {H0 H : Heap} {nd : Node} {inn old : List Bool} {W : Int → Prop} {ed : Edges} (h : KB S own H0 nd inn W H ed) (hb : base ≤ H0.length) (hs : H0[sid]? = some (.cells 9 [scell f iid (.fn g caps)])) (hl : inn.length = f.Vars.length) (hv : f.Vars.length ≤ 1048576) (ho : old.length = f.Vars.length) (oid : Nat) (h1 : (oid, Blk.cells 1 (bl old)) ∈ own) (h2 : (oid + 1, Blk.cells 1 [[.sl oid 0 f.Vars.length f.Vars.length]]) ∈ own) :
    ES A n_impl_scoper_walk_S1 [.bool false, .ptr H0.length 0 0 1, .ptr (oid + 1) 0 0 1, .ptr (H0.length + 1) 0 0 1] H = some (.tup [], H.set iid (.cells 1 (bl old)), []) := by
  have i1 := S.i1
  exact es_set_false f sid iid H0.length (oid + 1) (H0.length + 1) (.fn g caps) H inn hv hl (h.sc S hb hs) h.fr.inn h.bx (Ne.symm S.is) (by omega) oid old (h.ow _ h2).2 (h.ow _ h1).2 ho
theorem walk_try (hf : FnT f) (hb0 : f.Vars.length ≤ 1048576) (n : Int) (n0 : 0 ≤ n) (n1 : n < f.Nodes.length) (hK : (nth f.Nodes n).Kind = 12) (hk2 : (nth f.Nodes n).Kids.length = 2)
    (hw : ∀ j : Int, 0 ≤ j → j < (nth f.Nodes n).Kids.length → WalkOk S (nth (nth f.Nodes n).Kids j)) : WalkOk S n := by
  intro lp inn V H0 hc hb hP hs hi hA
  obtain ⟨H1, e1, p⟩ := walk_pro S n n0 n1 lp inn V H0 hc hb hP hs hi hA
  have k0 := p.kb
  have hrl := (hf.hg.hsz n).1
  obtain ⟨H3, e3, w0, k1⟩ := k0.walk S hb hP hs (hw 0 (by omega) (by omega)) (hc.same hf n0 n1 (Int.le_refl 0) (by omega) (by omega) (fun _ => by omega))
  have t1 := k1.set_true S hb hs hc.len hb0 hrl (H1.length + 1)
  have k2 := k1.setin S hb (addRefs f.Vars.length (nth f.Nodes n).Refs inn)
  have hc1 := hc.last hf n0 n1 (j := 1) (by omega) (by omega) (.inr (.inr hK))
  rw [if_pos hK] at hc1
  obtain ⟨H5, e5, w1, k3⟩ := k2.walk S hb hP hs (hw 1 (by omega) (by omega)) hc1
  have t2 := k3.set_false S hb hs hc1.len hb0 hc.len H1.length (by simp) (by simp)
  have k4 := k3.setin S hb inn
  have hfin := k4.fr.fin S hi hA k4.acc hb []
  refine ⟨_, _, ?_, ?_, hfin.1⟩
  · have s0 := p.s0
    have q0 := p.q0
    have q1 := p.q1
    have q3 := p.q3
    have he := p.he
    simp only [scell, strs, ups, nodes] at s0 q1 q0
    simp only [Node.cells, ints, hK] at q3 he
    have hlb : (bl inn).length * 1 ≤ 35184372088832 := by have := hc.len; simp; omega
    have ha := appendTo_nils H1 1 1 (bl inn) hlb
    have hl := hc.len
    have b3 := k1.bx
    have x3 := k1.nx
    have x2 := k2.nx
    have b2 := k2.bx
    have x5 := k3.nx
    simp only [Node.cells, ints, hK] at x3 x2 x5
    simp (maxSteps := 10000000) -implicitDefEqProofs +contextual (disch := omega) only [s_impl_scoper_walk, u_impl_scoper_walk, rr_impl_scoper_walk, scell, strs, ups, nodes, Node.cells, ints, ↓e_append, appK_some, ↓XD, XU, refs, goneIn, Nat.beq, Nat.ble, List.isEmpty, ↓reduceIte, sevalprocAttr, s0, he, q0, p.q00, q1, p.q2, q3, p.r1, p.r2, ha, hl, hK, p.nl, w0, t1, w1, t2, hk2, b3, x3, b2, x2, x5]
  · refine cast (congrArg (fun P => S.Acc P _) (funext fun m => propext ?_)) hfin.2
    rw [sub_iff f.Nodes n m]
    constructor
    · rintro (((h | h) | h) | h)
      · exact .inl h
      · exact .inr (.inl h)
      · exact .inr (.inr ⟨0, by omega, by omega, h⟩)
      · exact .inr (.inr ⟨1, by omega, by omega, h⟩)
    · rintro (h | h | ⟨j, j0, j1, h⟩)
      · exact .inl (.inl (.inl h))
      · exact .inl (.inl (.inr h))
      · have : j = 0 ∨ j = 1 := by omega
        rcases this with rfl | rfl
        · exact .inl (.inr h)
        · exact .inr h
end
end Go.Proofs.Try.Av
end
section
attribute [local congr] ite_congr
set_option linter.unusedSimpArgs false
set_option linter.unusedVariables false
set_option maxRecDepth 10000
set_option maxHeartbeats 400000
namespace Go.Proofs.Try.Av
open Go Go.Av Classical
def slK (H : Heap) (sz : Nat) (x h : PV) : Option (PV × Heap × Edges) := match x, some (0 : Int) with
    | .fz rows, some l => match (match h with | .int _ n => some n | _ => none) with
      | some h => match decide (0 ≤ l) && decide (l ≤ h) && decide (h ≤ rows.length) && rows.all (fun r => r.length == sz) with
        | true => some (.fz ((rows.drop l.toNat).take (h.toNat - l.toNat)), H, [])
        | false => none
      | none => none
    | .sl id off len tot, some l => match (match h with | .int _ n => some n | _ => none) with
      | some h => match decide (0 ≤ l) && decide (l ≤ h) && decide (h ≤ len) && sizeIs H sz (.sl id off len tot) with
        | true => some (.sl id (off + l.toNat) (h.toNat - l.toNat) tot, H, [])
        | false => none
      | none => none
    | _, _ => none
theorem e_slice0 {P : AProg} (sz : Nat) (x h : Opd) (st : St) : evOp P.glob (CL P) st (.slice sz x none (some h)) = slK st.H sz (x.get P.glob st) (h.get P.glob st) := rfl
theorem slK_ints (H : Heap) (l : List Int) (k : IntKind) (n : Int) (h0 : 0 ≤ n) (h1 : n ≤ l.length) : slK H 1 (.fz (l.map fun k => [.int .i64 k])) (.int k n) = some (.fz ((l.take n.toNat).map fun k => [.int .i64 k]), H, []) := by
  have e : ((l.map fun k => [PV.int .i64 k]).all fun r => r.length == 1) = true := by simp
  have c : (decide ((0 : Int) ≤ 0) && decide (0 ≤ n) && decide (n ≤ (l.map fun k => [PV.int .i64 k]).length) && (l.map fun k => [PV.int .i64 k]).all (fun r => r.length == 1)) = true := by
    rw [e]; simp; omega
  show (match (decide ((0 : Int) ≤ 0) && decide (0 ≤ n) && decide (n ≤ (l.map fun k => [PV.int .i64 k]).length) && (l.map fun k => [PV.int .i64 k]).all (fun r => r.length == 1)) with | true => some (PV.fz (((l.map fun k => [PV.int .i64 k]).drop (0 : Int).toNat).take (n.toNat - (0 : Int).toNat)), H, ([] : Edges)) | false => none) = _
  rw [c]
  simp [List.map_take]
theorem nth_take {l : List Int} {m j : Int} (j0 : 0 ≤ j) (j1 : j < m) (m1 : m ≤ l.length) : nth (l.take m.toNat) j = nth l j := by
  have : j.toNat < m.toNat := by omega
  simp [nth, List.getD, List.getElem?_take, this]
section
variable {f : Fn} {sid iid cid base g : Nat} {caps : List PV} (S : See f sid iid cid base g caps)
theorem lw_heads (n : Int) (lp : Bool) (inn : List Bool) (V0 W : Int → Prop) (H0 : Heap) (hb : base ≤ H0.length) (hA0 : S.Acc V0 H0) (hP : S.Pre H0) (hs : H0[sid]? = some (.cells 9 [scell f iid (.fn g caps)])) (nd : Node) (ks : List Int) (hkl : ks.length ≤ 1048576)
    (v6 v7 v8 v47 v16 : PV) (hc : ∀ j : Int, 0 ≤ j → j < ks.length → Ctx f (nth ks j) lp inn) (hw : ∀ j : Int, 0 ≤ j → j < ks.length → WalkOk S (nth ks j))
    (own : List (Nat × Blk)) (H : Heap) (ed : Edges) (hK : KB S own H0 nd inn W H ed) :
    ∃ H' ed', EV A (.loop (B_impl_scoper_walk 3)) ⟨[(0, .ptr sid 0 0 1), (1, .int .i64 n), (2, .bool lp), (3, .ptr H0.length 0 0 1), (6, v6), (7, v7), (8, v8), (47, v47), (143, .bool true), (16, v16), (154, ints ks), (155, .int .i64 ks.length), (156, .int .i64 0)], [], H, ed⟩ = some (.exit 9, ⟨[(0, .ptr sid 0 0 1), (1, .int .i64 n), (2, .bool lp), (3, .ptr H0.length 0 0 1), (6, v6), (7, v7), (8, v8), (47, v47), (143, .bool true), (16, v16), (154, ints ks), (155, .int .i64 ks.length), (156, .int .i64 ks.length)], [], H', ed'⟩) ∧ KB S own H0 nd inn (fun m => W m ∨ ∃ j : Int, 0 ≤ j ∧ j < ks.length ∧ Sub f.Nodes (nth ks j) m) H' ed' := by
  obtain ⟨r, e, H', ed', rfl, h⟩ := loop_ind (P := A) (body := (B_impl_scoper_walk 3)) (fun a : Int × Heap × Edges => ⟨[(0, .ptr sid 0 0 1), (1, .int .i64 n), (2, .bool lp), (3, .ptr H0.length 0 0 1), (6, v6), (7, v7), (8, v8), (47, v47), (143, .bool true), (16, v16), (154, ints ks), (155, .int .i64 ks.length), (156, .int .i64 a.1)], [], a.2.1, a.2.2⟩)
    (fun a => 0 ≤ a.1 ∧ a.1 ≤ ks.length ∧ KB S own H0 nd inn (fun m => W m ∨ ∃ j : Int, 0 ≤ j ∧ j < a.1 ∧ Sub f.Nodes (nth ks j) m) a.2.1 a.2.2) (fun a => (ks.length - a.1).toNat)
    (fun a r => ∃ H' ed', r = (AExit.exit 9, (⟨[(0, .ptr sid 0 0 1), (1, .int .i64 n), (2, .bool lp), (3, .ptr H0.length 0 0 1), (6, v6), (7, v7), (8, v8), (47, v47), (143, .bool true), (16, v16), (154, ints ks), (155, .int .i64 ks.length), (156, .int .i64 ks.length)], [], H', ed'⟩ : St)) ∧ KB S own H0 nd inn (fun m => W m ∨ ∃ j : Int, 0 ≤ j ∧ j < ks.length ∧ Sub f.Nodes (nth ks j) m) H' ed') (by
    rintro ⟨i, H, ed⟩ ⟨i0, i1, hK⟩
    dsimp only at i0 i1 hK ⊢
    by_cases hn : i = ks.length
    · left
      subst hn
      exact ⟨_, by simp (maxSteps := 10000000) -implicitDefEqProofs +contextual (disch := omega) only [ub_impl_scoper_walk_3, rr_impl_scoper_walk, ints, ↓XD, XU, refs, goneIn, Nat.beq, Nat.ble, List.isEmpty, ↓reduceIte, sevalprocAttr, Int.lt_irrefl], by simp, H, ed, rfl, hK⟩
    · right
      have i2 : i < ks.length := by omega
      have hl := hK.fr.len
      have hbx := hK.bx
      have hlH := some_lt hK.bx
      have c1 := S.c1
      obtain ⟨H', ed', he, hA, hS⟩ := hw i i0 i2 lp inn _ H (hc i i0 i2) (by omega) (S.pre H0 H hP (fun id h1 h2 h3 => hK.fr.same id (by omega) h2 h3)) (hK.sc S hb hs) hK.fr.inn hK.acc
      have hF := hK.fr.step S hS hb
      have hF2 := Fr.cut S hF hA0 hA hb H.length hl hS.len
      refine ⟨(i + 1, trim H.length [.ptr sid 0 0 1, .int .i64 n, .bool lp, .ptr H0.length 0 0 1, v6, v7, v8, v47, .bool true, v16, ints ks, .int .i64 ks.length, .int .i64 (i + 1)] H' (ed' ++ ed)), _, ⟨by omega, by omega, ?_⟩, by dsimp only; omega, by (simp (maxSteps := 10000000) -implicitDefEqProofs +contextual (disch := omega) only [ub_impl_scoper_walk_3, rr_impl_scoper_walk, ints, ↓XD, XU, refs, goneIn, Nat.beq, Nat.ble, List.isEmpty, ↓reduceIte, sevalprocAttr, i2, hbx, he]) <;> rfl, ?_, ?_⟩
      · have hF2 := hF2 [.ptr sid 0 0 1, .int .i64 n, .bool lp, .ptr H0.length 0 0 1, v6, v7, v8, v47, .bool true, v16, ints ks, .int .i64 ks.length, .int .i64 (i + 1)]
        have hb1 := some_lt hK.bx
        have hb2 := some_lt hK.nx
        refine ⟨hF2.1, by rw [hF2.2.2.2 _ hb1, hS.same _ hb1 (by omega), hK.bx], by rw [hF2.2.2.2 _ hb2, hS.same _ hb2 (by omega), hK.nx], fun p hp => by
          obtain ⟨o1, o2⟩ := hK.ow p hp
          have o3 := some_lt o2
          exact ⟨o1, by rw [hF2.2.2.2 _ o3, hS.same _ o3 (by omega), o2]⟩, ?_⟩
        have := hF2.2.1
        refine cast (congrArg (fun P => S.Acc P _) (funext fun m => propext ?_)) this
        constructor
        · rintro (h | h)
          · rcases h with h | ⟨j, j0, j1, h⟩
            · exact .inl h
            · exact .inr ⟨j, j0, by omega, h⟩
          · exact .inr ⟨i, i0, by omega, h⟩
        · rintro (h | ⟨j, j0, j1, h⟩)
          · exact .inl (.inl h)
          · by_cases hj : j = i
            · subst hj; exact .inr h
            · exact .inl (.inr ⟨j, j0, by omega, h⟩)
      · simp [St.next, ints]
      · rintro r ⟨H', ed', rfl, h⟩; exact ⟨H', ed', rfl, h⟩) (0, H, ed) ⟨Int.le_refl _, by omega, hK.sets S fun m => ⟨.inl, fun h => h.elim id (fun ⟨j, j0, j1, _⟩ => by omega)⟩⟩
  exact ⟨H', ed', e, h⟩
end
end Go.Proofs.Try.Av
end
section
attribute [local congr] ite_congr
set_option linter.unusedSimpArgs false
set_option linter.unusedVariables false
set_option maxRecDepth 10000
set_option maxHeartbeats 400000
namespace Go.Proofs.Try.Av
open Go Go.Av Classical
section
variable {f : Fn} {sid iid cid base g : Nat} {caps : List PV} (S : See f sid iid cid base g caps)
theorem walk_7 (hf : FnT f) (hb0 : f.Vars.length ≤ 1048576) (n : Int) (n0 : 0 ≤ n) (n1 : n < f.Nodes.length) (hK : (nth f.Nodes n).Kind = 7) (hk1 : 1 ≤ (nth f.Nodes n).Kids.length)
    (hw : ∀ j : Int, 0 ≤ j → j < (nth f.Nodes n).Kids.length → WalkOk S (nth (nth f.Nodes n).Kids j)) : WalkOk S n := by
  intro lp inn V H0 hc hb hP hs hi hA
  obtain ⟨H1, e1, p⟩ := walk_pro S n n0 n1 lp inn V H0 hc hb hP hs hi hA
  have k0 := p.kb
  have hrl := (hf.hg.hsz n).1
  have hkl := (hf.hg.hsz n).2
  have hL : (((nth f.Nodes n).Kids.take (((nth f.Nodes n).Kids.length : Int) - 1).toNat).length : Int) = (nth f.Nodes n).Kids.length - 1 := by rw [List.length_take]; omega
  have hnt : ∀ j : Int, 0 ≤ j → j < ((nth f.Nodes n).Kids.take (((nth f.Nodes n).Kids.length : Int) - 1).toNat).length → nth ((nth f.Nodes n).Kids.take (((nth f.Nodes n).Kids.length : Int) - 1).toNat) j = nth (nth f.Nodes n).Kids j := fun j j0 j1 => nth_take j0 (by omega) (by omega)
  obtain ⟨H3, e3, el, k1⟩ := lw_heads S n lp inn V _ H0 hb hA hP hs (nth f.Nodes n) ((nth f.Nodes n).Kids.take (((nth f.Nodes n).Kids.length : Int) - 1).toNat) (by omega)
    (.ptr (H0.length + 1) 0 0 1) (.ptr (H1.length + 1) 0 0 1) (.fn n_impl_scoper_walk_S1 [.ptr H0.length 0 0 1, .ptr (H1.length + 1) 0 0 1, .ptr (H0.length + 1) 0 0 1]) (.int .i64 7) (.int .i64 (((nth f.Nodes n).Kids.length : Int) - 1))
    (fun j j0 j1 => by rw [hnt j j0 j1]; exact hc.same hf n0 n1 j0 (by omega) (by omega) (fun _ => by omega)) (fun j j0 j1 => by rw [hnt j j0 j1]; exact hw j j0 (by omega)) _ _ _ k0
  have t1 := k1.set_true S hb hs hc.len hb0 hrl (H1.length + 1)
  have k2 := k1.setin S hb (addRefs f.Vars.length (nth f.Nodes n).Refs inn)
  have hc1 := hc.last hf n0 n1 (j := ((nth f.Nodes n).Kids.length : Int) - 1) (by omega) rfl (by omega)
  rw [if_neg (by omega)] at hc1
  obtain ⟨H5, e5, w1, k3⟩ := k2.walk S hb hP hs (hw (((nth f.Nodes n).Kids.length : Int) - 1) (by omega) (by omega)) hc1
  have t2 := k3.set_false S hb hs hc1.len hb0 hc.len H1.length (by simp) (by simp)
  have k4 := k3.setin S hb inn
  have hfin := k4.fr.fin S hi hA k4.acc hb []
  refine ⟨_, _, ?_, ?_, hfin.1⟩
  · have s0 := p.s0
    have q0 := p.q0
    have q1 := p.q1
    have q3 := p.q3
    have he := p.he
    simp only [scell, strs, ups, nodes] at s0 q1 q0
    simp only [Node.cells, ints, hK] at q3 he
    have hlb : (bl inn).length * 1 ≤ 35184372088832 := by have := hc.len; simp; omega
    have ha := appendTo_nils H1 1 1 (bl inn) hlb
    have hl := hc.len
    have b3 := k1.bx
    have x3 := k1.nx
    have x2 := k2.nx
    have b2 := k2.bx
    have x5 := k3.nx
    simp only [Node.cells, ints, hK] at x3 x2 x5
    simp only [ints] at el
    simp (maxSteps := 10000000) -implicitDefEqProofs +contextual (disch := omega) only [s_impl_scoper_walk, u_impl_scoper_walk, rr_impl_scoper_walk, scell, strs, ups, nodes, Node.cells, ints, ↓e_append, ↓e_slice0, slK_ints, appK_some, ↓XD, XU, refs, goneIn, Nat.beq, Nat.ble, List.isEmpty, ↓reduceIte, sevalprocAttr, s0, he, q0, p.q00, q1, p.q2, q3, p.r1, p.r2, ha, hl, hK, p.nl, el, t1, w1, t2, b3, x3, b2, x2, x5]
  · refine cast (congrArg (fun P => S.Acc P _) (funext fun m => propext ?_)) hfin.2
    rw [sub_iff f.Nodes n m]
    constructor
    · rintro (((h | h) | ⟨j, j0, j1, h⟩) | h)
      · exact .inl h
      · exact .inr (.inl h)
      · exact .inr (.inr ⟨j, j0, by omega, by rw [hnt j j0 j1] at h; exact h⟩)
      · exact .inr (.inr ⟨_, by omega, by omega, h⟩)
    · rintro (h | h | ⟨j, j0, j1, h⟩)
      · exact .inl (.inl (.inl h))
      · exact .inl (.inl (.inr h))
      · by_cases hj : j = ((nth f.Nodes n).Kids.length : Int) - 1
        · subst hj; exact .inr h
        · exact .inl (.inr ⟨j, j0, by omega, by rw [hnt j j0 (by omega)]; exact h⟩)
theorem walk_8 (hf : FnT f) (hb0 : f.Vars.length ≤ 1048576) (n : Int) (n0 : 0 ≤ n) (n1 : n < f.Nodes.length) (hK : (nth f.Nodes n).Kind = 8) (hk1 : 1 ≤ (nth f.Nodes n).Kids.length)
    (hw : ∀ j : Int, 0 ≤ j → j < (nth f.Nodes n).Kids.length → WalkOk S (nth (nth f.Nodes n).Kids j)) : WalkOk S n := by
  intro lp inn V H0 hc hb hP hs hi hA
  obtain ⟨H1, e1, p⟩ := walk_pro S n n0 n1 lp inn V H0 hc hb hP hs hi hA
  have k0 := p.kb
  have hrl := (hf.hg.hsz n).1
  have hkl := (hf.hg.hsz n).2
  have hL : (((nth f.Nodes n).Kids.take (((nth f.Nodes n).Kids.length : Int) - 1).toNat).length : Int) = (nth f.Nodes n).Kids.length - 1 := by rw [List.length_take]; omega
  have hnt : ∀ j : Int, 0 ≤ j → j < ((nth f.Nodes n).Kids.take (((nth f.Nodes n).Kids.length : Int) - 1).toNat).length → nth ((nth f.Nodes n).Kids.take (((nth f.Nodes n).Kids.length : Int) - 1).toNat) j = nth (nth f.Nodes n).Kids j := fun j j0 j1 => nth_take j0 (by omega) (by omega)
  obtain ⟨H3, e3, el, k1⟩ := lw_heads S n lp inn V _ H0 hb hA hP hs (nth f.Nodes n) ((nth f.Nodes n).Kids.take (((nth f.Nodes n).Kids.length : Int) - 1).toNat) (by omega)
    (.ptr (H0.length + 1) 0 0 1) (.ptr (H1.length + 1) 0 0 1) (.fn n_impl_scoper_walk_S1 [.ptr H0.length 0 0 1, .ptr (H1.length + 1) 0 0 1, .ptr (H0.length + 1) 0 0 1]) (.int .i64 8) (.int .i64 (((nth f.Nodes n).Kids.length : Int) - 1))
    (fun j j0 j1 => by rw [hnt j j0 j1]; exact hc.same hf n0 n1 j0 (by omega) (by omega) (fun _ => by omega)) (fun j j0 j1 => by rw [hnt j j0 j1]; exact hw j j0 (by omega)) _ _ _ k0
  have t1 := k1.set_true S hb hs hc.len hb0 hrl (H1.length + 1)
  have k2 := k1.setin S hb (addRefs f.Vars.length (nth f.Nodes n).Refs inn)
  have hc1 := hc.last hf n0 n1 (j := ((nth f.Nodes n).Kids.length : Int) - 1) (by omega) rfl (by omega)
  rw [if_neg (by omega)] at hc1
  obtain ⟨H5, e5, w1, k3⟩ := k2.walk S hb hP hs (hw (((nth f.Nodes n).Kids.length : Int) - 1) (by omega) (by omega)) hc1
  have t2 := k3.set_false S hb hs hc1.len hb0 hc.len H1.length (by simp) (by simp)
  have k4 := k3.setin S hb inn
  have hfin := k4.fr.fin S hi hA k4.acc hb []
  refine ⟨_, _, ?_, ?_, hfin.1⟩
  · have s0 := p.s0
    have q0 := p.q0
    have q1 := p.q1
    have q3 := p.q3
    have he := p.he
    simp only [scell, strs, ups, nodes] at s0 q1 q0
    simp only [Node.cells, ints, hK] at q3 he
    have hlb : (bl inn).length * 1 ≤ 35184372088832 := by have := hc.len; simp; omega
    have ha := appendTo_nils H1 1 1 (bl inn) hlb
    have hl := hc.len
    have b3 := k1.bx
    have x3 := k1.nx
    have x2 := k2.nx
    have b2 := k2.bx
    have x5 := k3.nx
    simp only [Node.cells, ints, hK] at x3 x2 x5
    simp only [ints] at el
    simp (maxSteps := 10000000) -implicitDefEqProofs +contextual (disch := omega) only [s_impl_scoper_walk, u_impl_scoper_walk, rr_impl_scoper_walk, scell, strs, ups, nodes, Node.cells, ints, ↓e_append, ↓e_slice0, slK_ints, appK_some, ↓XD, XU, refs, goneIn, Nat.beq, Nat.ble, List.isEmpty, ↓reduceIte, sevalprocAttr, s0, he, q0, p.q00, q1, p.q2, q3, p.r1, p.r2, ha, hl, hK, p.nl, el, t1, w1, t2, b3, x3, b2, x2, x5]
  · refine cast (congrArg (fun P => S.Acc P _) (funext fun m => propext ?_)) hfin.2
    rw [sub_iff f.Nodes n m]
    constructor
    · rintro (((h | h) | ⟨j, j0, j1, h⟩) | h)
      · exact .inl h
      · exact .inr (.inl h)
      · exact .inr (.inr ⟨j, j0, by omega, by rw [hnt j j0 j1] at h; exact h⟩)
      · exact .inr (.inr ⟨_, by omega, by omega, h⟩)
    · rintro (h | h | ⟨j, j0, j1, h⟩)
      · exact .inl (.inl (.inl h))
      · exact .inl (.inl (.inr h))
      · by_cases hj : j = ((nth f.Nodes n).Kids.length : Int) - 1
        · subst hj; exact .inr h
        · exact .inl (.inr ⟨j, j0, by omega, by rw [hnt j j0 (by omega)]; exact h⟩)
theorem walk_6 (hf : FnT f) (hb0 : f.Vars.length ≤ 1048576) (n : Int) (n0 : 0 ≤ n) (n1 : n < f.Nodes.length) (hK : (nth f.Nodes n).Kind = 6) (hk1 : 1 ≤ (nth f.Nodes n).Kids.length)
    (hw : ∀ j : Int, 0 ≤ j → j < (nth f.Nodes n).Kids.length → WalkOk S (nth (nth f.Nodes n).Kids j)) : WalkOk S n := by
  intro lp inn V H0 hc hb hP hs hi hA
  obtain ⟨H1, e1, p⟩ := walk_pro S n n0 n1 lp inn V H0 hc hb hP hs hi hA
  have k0 := p.kb
  have hrl := (hf.hg.hsz n).1
  have hkl := (hf.hg.hsz n).2
  have hL : (((nth f.Nodes n).Kids.take (((nth f.Nodes n).Kids.length : Int) - 1).toNat).length : Int) = (nth f.Nodes n).Kids.length - 1 := by rw [List.length_take]; omega
  have hnt : ∀ j : Int, 0 ≤ j → j < ((nth f.Nodes n).Kids.take (((nth f.Nodes n).Kids.length : Int) - 1).toNat).length → nth ((nth f.Nodes n).Kids.take (((nth f.Nodes n).Kids.length : Int) - 1).toNat) j = nth (nth f.Nodes n).Kids j := fun j j0 j1 => nth_take j0 (by omega) (by omega)
  obtain ⟨H3, e3, el, k1⟩ := lw_heads S n lp inn V _ H0 hb hA hP hs (nth f.Nodes n) ((nth f.Nodes n).Kids.take (((nth f.Nodes n).Kids.length : Int) - 1).toNat) (by omega)
    (.ptr (H0.length + 1) 0 0 1) (.ptr (H1.length + 1) 0 0 1) (.fn n_impl_scoper_walk_S1 [.ptr H0.length 0 0 1, .ptr (H1.length + 1) 0 0 1, .ptr (H0.length + 1) 0 0 1]) (.int .i64 6) (.int .i64 (((nth f.Nodes n).Kids.length : Int) - 1))
    (fun j j0 j1 => by rw [hnt j j0 j1]; exact hc.same hf n0 n1 j0 (by omega) (by omega) (fun _ => by omega)) (fun j j0 j1 => by rw [hnt j j0 j1]; exact hw j j0 (by omega)) _ _ _ k0
  have k2 := k1
  have hc1 := hc.body hf n0 n1 (j := ((nth f.Nodes n).Kids.length : Int) - 1) (by omega) rfl hK
  obtain ⟨H5, e5, w1, k4⟩ := k2.walk S hb hP hs (hw (((nth f.Nodes n).Kids.length : Int) - 1) (by omega) (by omega)) hc1
  have k3 := k4
  have hfin := k4.fr.fin S hi hA k4.acc hb []
  refine ⟨_, _, ?_, ?_, hfin.1⟩
  · have s0 := p.s0
    have q0 := p.q0
    have q1 := p.q1
    have q3 := p.q3
    have he := p.he
    simp only [scell, strs, ups, nodes] at s0 q1 q0
    simp only [Node.cells, ints, hK] at q3 he
    have hlb : (bl inn).length * 1 ≤ 35184372088832 := by have := hc.len; simp; omega
    have ha := appendTo_nils H1 1 1 (bl inn) hlb
    have hl := hc.len
    have b3 := k1.bx
    have x3 := k1.nx
    have x2 := k2.nx
    have b2 := k2.bx
    have x5 := k3.nx
    simp only [Node.cells, ints, hK] at x3 x2 x5
    simp only [ints] at el
    simp (maxSteps := 10000000) -implicitDefEqProofs +contextual (disch := omega) only [s_impl_scoper_walk, u_impl_scoper_walk, rr_impl_scoper_walk, scell, strs, ups, nodes, Node.cells, ints, ↓e_append, ↓e_slice0, slK_ints, appK_some, ↓XD, XU, refs, goneIn, Nat.beq, Nat.ble, List.isEmpty, ↓reduceIte, sevalprocAttr, s0, he, q0, p.q00, q1, p.q2, q3, p.r1, p.r2, ha, hl, hK, p.nl, el, w1, b3, x3, b2, x2, x5]
  · refine cast (congrArg (fun P => S.Acc P _) (funext fun m => propext ?_)) hfin.2
    rw [sub_iff f.Nodes n m]
    constructor
    · rintro (((h | h) | ⟨j, j0, j1, h⟩) | h)
      · exact .inl h
      · exact .inr (.inl h)
      · exact .inr (.inr ⟨j, j0, by omega, by rw [hnt j j0 j1] at h; exact h⟩)
      · exact .inr (.inr ⟨_, by omega, by omega, h⟩)
    · rintro (h | h | ⟨j, j0, j1, h⟩)
      · exact .inl (.inl (.inl h))
      · exact .inl (.inl (.inr h))
      · by_cases hj : j = ((nth f.Nodes n).Kids.length : Int) - 1
        · subst hj; exact .inr h
        · exact .inl (.inr ⟨j, j0, by omega, by rw [hnt j j0 (by omega)]; exact h⟩)
end
end Go.Proofs.Try.Av
end
section
attribute [local congr] ite_congr
set_option linter.unusedSimpArgs false
set_option linter.unusedVariables false
set_option maxRecDepth 10000
set_option maxHeartbeats 400000
namespace Go.Proofs.Try.Av
open Go Go.Av Classical
theorem trim_keeps (k : Nat) (roots : List PV) (H : Heap) (ed : Edges) {id : Nat} (h : id < k ∨ id ∈ refsL roots) : (trim k roots H ed).1[id]? = H[id]? := by
  rw [trim]
  cases hb : bare k (refsL roots) && ed.all fun e => decide (k ≤ e.1) || decide (e.2 < k) with
  | false => rfl
  | true =>
    rw [Bool.and_eq_true] at hb
    have : id < k := by
      rcases h with h | h
      · exact h
      · have := List.all_eq_true.1 hb.1 id h; simpa using this
    show (H.take k)[id]? = _
    rw [List.getElem?_take, if_pos this]
def bs1 (x : PV) (H : Heap) : Option (PV × Heap × Edges) := match fillRows [[PV.int .i64 0]] [(0, cellsOf x)] with
    | some rows => some (.sl H.length 0 1 1, H ++ [.cells 1 rows], [])
    | none => none
theorem e_build1 {P : AProg} (x : Opd) (st : St) : evOp P.glob (CL P) st (.buildSlice 1 1 [.int .i64 0] [(0, x)]) = bs1 (x.get P.glob st) st.H := rfl
theorem bs1_int (v : Int) (H : Heap) : bs1 (.int .i64 v) H = some (.sl H.length 0 1 1, H ++ [.cells 1 [[.int .i64 v]]], []) := rfl
theorem rows1 (H : Heap) (v : Int) : rowsOf (H ++ [.cells 1 [[.int .i64 v]]]) (.sl H.length 0 1 1) = some [[.int .i64 v]] ∧ sizeIs (H ++ [.cells 1 [[.int .i64 v]]]) 1 (.sl H.length 0 1 1) = true := by
  constructor <;> simp [rowsOf, sizeIs]
theorem app_ints {H : Heap} {mid : Nat} {ms : List Int} (h : H[mid]? = some (.cells 1 (il ms))) (hl : ms.length ≤ 4000000000000) (v : Int) : appendTo H 1 8 (.sl mid 0 ms.length ms.length) [[.int .i64 v]] = some (.sl mid 0 (ms.length + 1) (ms.length + 1), H.set mid (.cells 1 (il (ms ++ [v]))), []) := by
  have e1 : (il ms).length = ms.length := by simp
  have c1 : (ms.length == (il ms).length && 1 == 1 && decide (0 + ms.length ≤ ms.length) && decide ((0 + ms.length + [[PV.int .i64 v]].length) * 8 ≤ 35184372088832)) = true := by simp; omega
  have c2 : decide (0 + ms.length + [[PV.int IntKind.i64 v]].length ≤ ms.length) = false := by simp
  simp only [appendTo, h, c1, c2]
  simp [edgesTo, refsL, refs]
  rw [List.take_of_length_le (by simp)]
section
variable {f : Fn} {sid iid cid base g : Nat} {caps : List PV} (S : See f sid iid cid base g caps)
theorem KB.app {H0 H : Heap} {nd : Node} {inn : List Bool} {W : Int → Prop} {ed : Edges} (h : KB S [] H0 nd inn W H ed) (hb : base ≤ H0.length) (l : Heap) : KB S [] H0 nd inn W (H ++ l) ed := by
  obtain ⟨h1, h2⟩ := h.fr.app S h.acc hb l []
  rw [List.nil_append] at h1
  exact ⟨h1, app_old _ _ h.bx, app_old _ _ h.nx, by simp, h2⟩
theorem KB.own {H0 H : Heap} {nd : Node} {inn : List Bool} {W : Int → Prop} {ed : Edges} (h : KB S [] H0 nd inn W H ed) (hb : base ≤ H0.length) {mid s : Nat} {r : List (List PV)} (hm : H0.length + 2 ≤ mid) (hc : H[mid]? = some (.cells s r)) (b : Blk) : KB S [] H0 nd inn W (H.set mid b) ed := by
  have i1 := S.i1
  have c1 := S.c1
  have hne : ∀ id, id ≠ mid → (H.set mid b)[id]? = H[id]? := fun id hid => List.getElem?_set_ne (Ne.symm hid)
  refine ⟨⟨by simpa using h.fr.len, fun id h1 h2 h3 => by rw [hne id (by omega)]; exact h.fr.same id h1 h2 h3, by rw [hne iid (by omega)]; exact h.fr.inn, fun b r hb2 hr => ?_, fun e he => by rw [List.length_set]; exact h.fr.bd e he⟩, by rw [hne _ (by omega)]; exact h.bx, by rw [hne _ (by omega)]; exact h.nx, by simp, ?_⟩
  · rw [hne cid (by omega)] at hb2; exact h.fr.fw b r hb2 hr
  · refine S.stable W H _ h.acc (hne cid (by omega)) fun b r hb2 hr => ?_
    obtain ⟨es, h3⟩ := S.maps W H h.acc b r hb2 hr
    refine hne r fun e => ?_
    rw [e, hc] at h3; cases h3
theorem KB.cut {H0 H : Heap} {nd : Node} {inn : List Bool} {V0 W : Int → Prop} {ed : Edges} (h : KB S [] H0 nd inn W H ed) (hA0 : S.Acc V0 H0) (hb : base ≤ H0.length) (k : Nat) (hk : H0.length + 2 ≤ k) (hkH : k ≤ H.length) (roots : List PV) : KB S [] H0 nd inn W (trim k roots H ed).1 (trim k roots H ed).2 := by
  obtain ⟨h1, h2, _, h4⟩ := h.fr.cut S hA0 h.acc hb k (by omega) hkH roots
  exact ⟨h1, by rw [h4 _ (by omega)]; exact h.bx, by rw [h4 _ (by omega)]; exact h.nx, by simp, h2⟩
def Mine (H0 : Heap) (M : PV) (ms : List Int) (H : Heap) : Prop := (M = .nils ∧ ms = []) ∨ ∃ mid, M = .sl mid 0 ms.length ms.length ∧ H0.length + 2 ≤ mid ∧ H[mid]? = some (.cells 1 (il ms))
theorem Mine.keep {H0 H H' : Heap} {M : PV} {ms : List Int} (h : Mine H0 M ms H) (hk : ∀ mid, mid ∈ refs M → H'[mid]? = H[mid]?) : Mine H0 M ms H' := by
  rcases h with h | ⟨mid, rfl, h1, h2⟩
  · exact .inl h
  · exact .inr ⟨mid, rfl, h1, by rw [hk mid (by simp [refs])]; exact h2⟩
theorem Mine.lt {H0 H : Heap} {M : PV} {ms : List Int} (h : Mine H0 M ms H) {mid : Nat} (hm : mid ∈ refs M) : H0.length + 2 ≤ mid ∧ mid < H.length := by
  rcases h with ⟨rfl, _⟩ | ⟨m, rfl, h1, h2⟩
  · simp [refs] at hm
  · simp only [refs, List.mem_singleton] at hm; subst hm; exact ⟨h1, some_lt h2⟩
end
end Go.Proofs.Try.Av
end
section
attribute [local congr] ite_congr
set_option linter.unusedSimpArgs false
set_option linter.unusedVariables false
set_option maxRecDepth 10000
set_option maxHeartbeats 1000000
namespace Go.Proofs.Try.Av
open Go Go.Av Classical
structure MR (L : Nat) (inn : List Bool) (ms : List Int) (a : List Bool) : Prop where
  len : a.length = L
  is : ∀ v : Int, 0 ≤ v → v < L → (nth a v = true ↔ nth inn v = true ∨ v ∈ ms)
  new : ∀ v ∈ ms, 0 ≤ v ∧ v < L ∧ ¬nth inn v = true
  nodup : ms.Nodup
theorem MR.add {L : Nat} {inn : List Bool} {ms : List Int} {a : List Bool} (h : MR L inn ms a) {v : Int} (v0 : 0 ≤ v) (v1 : v < L) (hv : ¬nth a v = true) : MR L inn (ms ++ [v]) (a.set v.toNat true) := by
  refine ⟨by simpa using h.len, fun w w0 w1 => ?_, fun w hw => ?_, List.nodup_append.2 ⟨h.nodup, by simp, fun x hx y hy e => ?_⟩⟩
  · rw [nth_set v0 (by rw [h.len]; exact v1) w0, List.mem_append, List.mem_singleton, ← or_assoc, ← h.is w w0 w1]
    by_cases e : v = w
    · rw [if_pos e]; simp [e]
    · rw [if_neg e]; exact ⟨.inl, fun h => h.resolve_right (fun h => e h.symm)⟩
  · rw [List.mem_append, List.mem_singleton] at hw
    rcases hw with hw | rfl
    · exact h.new w hw
    · exact ⟨v0, v1, fun hi => hv ((h.is _ v0 v1).2 (.inl hi))⟩
  · rw [List.mem_singleton] at hy
    subst hy; subst e
    exact hv ((h.is _ v0 v1).2 (.inr hx))
theorem trim_len (k : Nat) (roots : List PV) (H : Heap) (ed : Edges) (h : k ≤ H.length) : k ≤ (trim k roots H ed).1.length := by
  rcases trim_cases k roots H ed with e | ⟨e, _⟩
  · rw [e]; exact h
  · rw [e]; show k ≤ (H.take k).length; rw [List.length_take]; omega
section
variable {f : Fn} {sid iid cid base g : Nat} {caps : List PV} (S : See f sid iid cid base g caps)
theorem bd_b1 (n k i : Int) (lp : Bool) (inn a : List Bool) (W V0 : Int → Prop) (H0 : Heap) (hA0 : S.Acc V0 H0) (hb : base ≤ H0.length) (hs : H0[sid]? = some (.cells 9 [scell f iid (.fn g caps)])) (nd : Node) (ks rs : List Int) (v6 v7 v8 v47 : PV) (hrl : rs.length ≤ 1048576) (hv : f.Vars.length ≤ 1048576)
    (j : Int) (j0 : 0 ≤ j) (j1 : j < rs.length) (ms : List Int) (M : PV) (H : Heap) (ed : Edges) (hK : KB S [] H0 nd a W H ed) (hM : Mine H0 M ms H) (hR : MR f.Vars.length inn ms a) (hml : ms.length ≤ 3000000000000) :
    ∃ a' ms' M' H', EV A (B_impl_scoper_walk 1) ⟨[(0, .ptr sid 0 0 1), (1, .int .i64 n), (2, .bool lp), (3, .ptr H0.length 0 0 1), (6, v6), (7, v7), (8, v8), (47, v47), (9, M), (63, ints ks), (64, .int .i64 ks.length), (65, .int .i64 i), (11, .int .i64 k), (91, ints rs), (92, .int .i64 rs.length), (93, .int .i64 j)], [], H, ed⟩ = some (.normal, ⟨[(0, .ptr sid 0 0 1), (1, .int .i64 n), (2, .bool lp), (3, .ptr H0.length 0 0 1), (6, v6), (7, v7), (8, v8), (47, v47), (9, M'), (63, ints ks), (64, .int .i64 ks.length), (65, .int .i64 i), (11, .int .i64 k), (91, ints rs), (92, .int .i64 rs.length), (93, .int .i64 (j + 1)), (13, .int .i64 (nth rs j))], [], H', ed⟩) ∧ H.length ≤ H'.length ∧ KB S [] H0 nd a' W H' ed ∧ Mine H0 M' ms' H' ∧ MR f.Vars.length inn ms' a' ∧ (ms'.length : Int) ≤ ms.length + 1 ∧ (∀ v : Int, 0 ≤ v → v < f.Vars.length → (nth a' v = true ↔ nth a v = true ∨ v = nth rs j)) := by
  have i1 := S.i1
  have s1 := S.s1
  have hsc := hK.sc S hb hs
  have hin := hK.fr.inn
  have hbx := hK.bx
  have hal := hR.len
  have hlH := some_lt hK.nx
  have hHl := hK.fr.len
  simp only [scell, strs, ups, nodes] at hsc
  by_cases c : (0 ≤ nth rs j ∧ nth rs j < f.Vars.length) ∧ ¬nth a (nth rs j) = true
  · have hK1 := hK.setin S hb (a.set (nth rs j).toNat true)
    have hR' := hR.add c.1.1 c.1.2 c.2
    have hsc1 : ∀ b, (H.set iid b)[sid]? = H[sid]? := fun b => List.getElem?_set_ne S.is
    have hbx1 : ∀ b, (H.set iid b)[H0.length]? = H[H0.length]? := fun b => List.getElem?_set_ne (by omega)
    have hrel : ∀ v : Int, 0 ≤ v → v < f.Vars.length → (nth (a.set (nth rs j).toNat true) v = true ↔ nth a v = true ∨ v = nth rs j) := fun v v0 v1 => by
      rw [nth_set c.1.1 (by rw [hal]; exact c.1.2) v0]
      by_cases e : nth rs j = v
      · rw [if_pos e]; simp [e]
      · rw [if_neg e]; exact ⟨.inl, fun h => h.resolve_right (fun h => e h.symm)⟩
    have hr1 := rows1 (H.set iid (.cells 1 (bl (a.set (nth rs j).toNat true)))) (nth rs j)
    rw [List.length_set] at hr1
    rcases hM with ⟨rfl, rfl⟩ | ⟨mid, rfl, hm1, hm2⟩
    · have hap := appendTo_nils (H.set iid (.cells 1 (bl (a.set (nth rs j).toNat true))) ++ [.cells 1 [[.int .i64 (nth rs j)]]]) 1 8 [[.int .i64 (nth rs j)]] (by simp)
      have hK2 := (hK1.app S hb [.cells 1 [[.int .i64 (nth rs j)]]]).app S hb [.cells 1 [[.int .i64 (nth rs j)]]]
      refine ⟨_, _, .sl (H.length + 1) 0 1 1, _, ?_, ?_, hK2, .inr ⟨H.length + 1, by simp, by omega, ?_⟩, hR', by simp, hrel⟩
      · simp (maxSteps := 10000000) -implicitDefEqProofs +contextual (disch := omega) only [ub_impl_scoper_walk_1, rr_impl_scoper_walk, ints, ↓e_append, ↓e_build1, bs1_int, appK_some, ↓XD, XU, refs, goneIn, Nat.beq, Nat.ble, List.isEmpty, ↓reduceIte, sevalprocAttr, j1, c.1.1, c.1.2, c.2, c, hsc, hsc1, hbx, hbx1, hin, hal, hr1.1, hr1.2, hap]
      · simp
      · rw [List.getElem?_append_right (by simp)]; simp
    · have hap := app_ints (H := H.set iid (.cells 1 (bl (a.set (nth rs j).toNat true))) ++ [.cells 1 [[.int .i64 (nth rs j)]]]) (mid := mid) (ms := ms) (app_old _ _ (by rw [List.getElem?_set_ne (by omega)]; exact hm2)) (by omega) (nth rs j)
      have hK2 := (hK1.app S hb [.cells 1 [[.int .i64 (nth rs j)]]]).own S hb hm1 (app_old _ _ (by rw [List.getElem?_set_ne (by omega)]; exact hm2)) (.cells 1 (il (ms ++ [nth rs j])))
      have hmH := some_lt hm2
      refine ⟨_, _, .sl mid 0 (ms.length + 1) (ms.length + 1), _, ?_, ?_, hK2, .inr ⟨mid, by simp, hm1, ?_⟩, hR', by simp, hrel⟩
      · simp (maxSteps := 10000000) -implicitDefEqProofs +contextual (disch := omega) only [ub_impl_scoper_walk_1, rr_impl_scoper_walk, ints, ↓e_append, ↓e_build1, bs1_int, appK_some, ↓XD, XU, refs, goneIn, Nat.beq, Nat.ble, List.isEmpty, ↓reduceIte, sevalprocAttr, j1, c.1.1, c.1.2, c.2, c, hsc, hsc1, hbx, hbx1, hin, hal, hr1.1, hr1.2, hap]
      · simp
      · rw [List.getElem?_set_self (by simp; omega)]
  · refine ⟨a, ms, M, H, ?_, Nat.le_refl _, hK, hM, hR, by omega, fun v v0 v1 => ⟨.inl, fun h => h.elim id (fun h => ?_)⟩⟩
    · simp (maxSteps := 10000000) -implicitDefEqProofs +contextual (disch := omega) only [ub_impl_scoper_walk_1, rr_impl_scoper_walk, ints, ↓XD, XU, refs, goneIn, Nat.beq, Nat.ble, List.isEmpty, ↓reduceIte, sevalprocAttr, j1, c, hsc, hbx, hin, hal]
    · subst h
      exact Classical.byContradiction fun hc => c ⟨⟨v0, v1⟩, hc⟩
theorem lw_b1 (n k i : Int) (lp : Bool) (inn a0 : List Bool) (W V0 : Int → Prop) (H0 : Heap) (hA0 : S.Acc V0 H0) (hb : base ≤ H0.length) (hs : H0[sid]? = some (.cells 9 [scell f iid (.fn g caps)])) (nd : Node) (ks rs : List Int) (v6 v7 v8 v47 : PV) (hrl : rs.length ≤ 1048576) (hv : f.Vars.length ≤ 1048576)
    (ms0 : List Int) (M0 : PV) (H1 : Heap) (ed1 : Edges) (hK : KB S [] H0 nd a0 W H1 ed1) (hM : Mine H0 M0 ms0 H1) (hR : MR f.Vars.length inn ms0 a0) (hml : ms0.length ≤ 2000000000000) :
    ∃ a' ms' M' H' ed', EV A (.loop (B_impl_scoper_walk 1)) ⟨[(0, .ptr sid 0 0 1), (1, .int .i64 n), (2, .bool lp), (3, .ptr H0.length 0 0 1), (6, v6), (7, v7), (8, v8), (47, v47), (9, M0), (63, ints ks), (64, .int .i64 ks.length), (65, .int .i64 i), (11, .int .i64 k), (91, ints rs), (92, .int .i64 rs.length), (93, .int .i64 0)], [], H1, ed1⟩ = some (.exit 5, ⟨[(0, .ptr sid 0 0 1), (1, .int .i64 n), (2, .bool lp), (3, .ptr H0.length 0 0 1), (6, v6), (7, v7), (8, v8), (47, v47), (9, M'), (63, ints ks), (64, .int .i64 ks.length), (65, .int .i64 i), (11, .int .i64 k), (91, ints rs), (92, .int .i64 rs.length), (93, .int .i64 rs.length)], [], H', ed'⟩) ∧ H1.length ≤ H'.length ∧ KB S [] H0 nd a' W H' ed' ∧ Mine H0 M' ms' H' ∧ MR f.Vars.length inn ms' a' ∧ (ms'.length : Int) ≤ ms0.length + rs.length ∧ (∀ v : Int, 0 ≤ v → v < f.Vars.length → (nth a' v = true ↔ nth a0 v = true ∨ v ∈ rs)) := by
  obtain ⟨r, e, a', ms', M', H', ed', rfl, h⟩ := loop_ind (P := A) (body := (B_impl_scoper_walk 1)) (fun x : Int × PV × Heap × Edges => ⟨[(0, .ptr sid 0 0 1), (1, .int .i64 n), (2, .bool lp), (3, .ptr H0.length 0 0 1), (6, v6), (7, v7), (8, v8), (47, v47), (9, x.2.1), (63, ints ks), (64, .int .i64 ks.length), (65, .int .i64 i), (11, .int .i64 k), (91, ints rs), (92, .int .i64 rs.length), (93, .int .i64 x.1)], [], x.2.2.1, x.2.2.2⟩)
    (fun x => 0 ≤ x.1 ∧ x.1 ≤ rs.length ∧ H1.length ≤ x.2.2.1.length ∧ ∃ a ms, KB S [] H0 nd a W x.2.2.1 x.2.2.2 ∧ Mine H0 x.2.1 ms x.2.2.1 ∧ MR f.Vars.length inn ms a ∧ (ms.length : Int) ≤ ms0.length + x.1 ∧ ∀ v : Int, 0 ≤ v → v < f.Vars.length → (nth a v = true ↔ nth a0 v = true ∨ v ∈ rs.take x.1.toNat)) (fun x => (rs.length - x.1).toNat)
    (fun x r => ∃ a' ms' M' H' ed', r = (AExit.exit 5, (⟨[(0, .ptr sid 0 0 1), (1, .int .i64 n), (2, .bool lp), (3, .ptr H0.length 0 0 1), (6, v6), (7, v7), (8, v8), (47, v47), (9, M'), (63, ints ks), (64, .int .i64 ks.length), (65, .int .i64 i), (11, .int .i64 k), (91, ints rs), (92, .int .i64 rs.length), (93, .int .i64 rs.length)], [], H', ed'⟩ : St)) ∧ H1.length ≤ H'.length ∧ KB S [] H0 nd a' W H' ed' ∧ Mine H0 M' ms' H' ∧ MR f.Vars.length inn ms' a' ∧ (ms'.length : Int) ≤ ms0.length + rs.length ∧ (∀ v : Int, 0 ≤ v → v < f.Vars.length → (nth a' v = true ↔ nth a0 v = true ∨ v ∈ rs))) (by
    rintro ⟨j, M, H, ed⟩ ⟨j0, j1, hLL, a, ms, hK, hM, hR, hl, hx⟩
    dsimp only at j0 j1 hLL hK hM hl hx ⊢
    by_cases hn : j = rs.length
    · left
      subst hn
      refine ⟨_, by simp (maxSteps := 10000000) -implicitDefEqProofs +contextual (disch := omega) only [ub_impl_scoper_walk_1, rr_impl_scoper_walk, ints, ↓XD, XU, refs, goneIn, Nat.beq, Nat.ble, List.isEmpty, ↓reduceIte, sevalprocAttr, Int.lt_irrefl], by simp, a, ms, M, H, ed, rfl, hLL, hK, hM, hR, hl, ?_⟩
      intro v v0 v1
      rw [hx v v0 v1, show rs.take (rs.length : Int).toNat = rs by simp]
    · right
      obtain ⟨a', ms', M', H', e, hL, hK', hM', hR', hl', hx'⟩ := bd_b1 S n k i lp inn a W V0 H0 hA0 hb hs nd ks rs v6 v7 v8 v47 hrl hv j j0 (by omega) ms M H ed hK hM hR (by omega)
      have hlH := some_lt hK.nx
      have hcut := hK'.cut S hA0 hb H.length (by omega) hL [.ptr sid 0 0 1, .int .i64 n, .bool lp, .ptr H0.length 0 0 1, v6, v7, v8, v47, M', ints ks, .int .i64 ks.length, .int .i64 i, .int .i64 k, ints rs, .int .i64 rs.length, .int .i64 (j + 1)]
      refine ⟨(j + 1, M', trim H.length [.ptr sid 0 0 1, .int .i64 n, .bool lp, .ptr H0.length 0 0 1, v6, v7, v8, v47, M', ints ks, .int .i64 ks.length, .int .i64 i, .int .i64 k, ints rs, .int .i64 rs.length, .int .i64 (j + 1)] H' ed), _, ⟨by dsimp only; omega, by dsimp only; omega, Nat.le_trans hLL (trim_len _ _ _ _ hL), a', ms', hcut, hM'.keep fun mid hm => trim_keeps _ _ _ _ (.inr ?_), hR', by dsimp only; omega, fun v v0 v1 => ?_⟩, by dsimp only; omega, e, by simp [St.next, ints], ?_⟩
      · simp [refsL, refs, hm]
      · dsimp only
        rw [hx' v v0 v1, hx v v0 v1, take_one_more j0 (by omega), List.mem_append, List.mem_singleton, or_assoc]
      · rintro r ⟨a', ms', M', H', ed', rfl, h⟩; exact ⟨a', ms', M', H', ed', rfl, h⟩) (0, M0, H1, ed1) ⟨Int.le_refl _, by dsimp only; omega, Nat.le_refl _, a0, ms0, hK, hM, hR, by dsimp only; omega, fun v v0 v1 => by simp⟩
  exact ⟨a', ms', M', H', ed', e, h⟩
end
end Go.Proofs.Try.Av
end
section
attribute [local congr] ite_congr
set_option linter.unusedSimpArgs false
set_option linter.unusedVariables false
set_option maxRecDepth 10000
set_option maxHeartbeats 1000000
namespace Go.Proofs.Try.Av
open Go Go.Av Classical
section
variable {f : Fn} {sid iid cid base g : Nat} {caps : List PV} (S : See f sid iid cid base g caps)
def LetSeen (f : Fn) (n i v : Int) : Prop := ∃ j : Int, 0 ≤ j ∧ j < i ∧ (nth f.Nodes (nth (nth f.Nodes n).Kids j)).Kind = 2 ∧ v ∈ (nth f.Nodes (nth (nth f.Nodes n).Kids j)).Refs
structure BInv (n : Int) (inn : List Bool) (V : Int → Prop) (H0 : Heap) (nd : Node) (i : Int) (M : PV) (H : Heap) (ed : Edges) (a : List Bool) (ms : List Int) : Prop where
  kb : KB S [] H0 nd a (fun m => (V m ∨ m = n) ∨ ∃ j : Int, 0 ≤ j ∧ j < i ∧ Sub f.Nodes (nth (nth f.Nodes n).Kids j) m) H ed
  mi : Mine H0 M ms H
  mr : MR f.Vars.length inn ms a
  ml : (ms.length : Int) ≤ i * 1048576
  see : ∀ v : Int, 0 ≤ v → v < f.Vars.length → (nth a v = true ↔ nth inn v = true ∨ LetSeen f n i v)
theorem bd_b0 (hf : FnT f) (hv : f.Vars.length ≤ 1048576) (n : Int) (n0 : 0 ≤ n) (n1 : n < f.Nodes.length) (hKd : (nth f.Nodes n).Kind = 1) (lp : Bool) (inn : List Bool) (V V0 : Int → Prop) (H0 : Heap) (hcx : Ctx f n lp inn) (hA0 : S.Acc V0 H0) (hb : base ≤ H0.length) (hP : S.Pre H0) (hs : H0[sid]? = some (.cells 9 [scell f iid (.fn g caps)])) (nd : Node) (v6 v7 v8 : PV)
    (hw : ∀ j : Int, 0 ≤ j → j < (nth f.Nodes n).Kids.length → WalkOk S (nth (nth f.Nodes n).Kids j))
    (i : Int) (i0 : 0 ≤ i) (i1 : i < (nth f.Nodes n).Kids.length) (M : PV) (H : Heap) (ed : Edges) (a : List Bool) (ms : List Int) (h : BInv S n inn V H0 nd i M H ed a ms) :
    ∃ M' H' ed' st, EV A (B_impl_scoper_walk 0) ⟨[(0, .ptr sid 0 0 1), (1, .int .i64 n), (2, .bool lp), (3, .ptr H0.length 0 0 1), (6, v6), (7, v7), (8, v8), (47, .int .i64 1), (9, M), (63, ints (nth f.Nodes n).Kids), (64, .int .i64 (nth f.Nodes n).Kids.length), (65, .int .i64 i)], [], H, ed⟩ = some (.normal, st) ∧ st.per.take 12 = [(0, .ptr sid 0 0 1), (1, .int .i64 n), (2, .bool lp), (3, .ptr H0.length 0 0 1), (6, v6), (7, v7), (8, v8), (47, .int .i64 1), (9, M'), (63, ints (nth f.Nodes n).Kids), (64, .int .i64 (nth f.Nodes n).Kids.length), (65, .int .i64 (i + 1))] ∧ st.H = H' ∧ st.ed = ed' ∧ H.length ≤ H'.length ∧ ∃ a' ms', BInv S n inn V H0 nd (i + 1) M' H' ed' a' ms' := by
  have hkl := (hf.hg.hsz n).2
  have c1 := S.c1
  have hl := h.kb.fr.len
  have hlH := some_lt h.kb.nx
  have hkid := hf.kid n0 n1 i0 i1
  have hrl := (hf.hg.hsz (nth (nth f.Nodes n).Kids i)).1
  have hc : Ctx f (nth (nth f.Nodes n).Kids i) lp a := hcx.block hf n0 n1 i0 i1 hKd h.mr.len h.see
  obtain ⟨H', ed', he, hA, hS⟩ := hw i i0 i1 lp a _ H hc (by omega) (S.pre H0 H hP (fun id h1 h2 h3 => h.kb.fr.same id (by omega) h2 h3)) (h.kb.sc S hb hs) h.kb.fr.inn h.kb.acc
  have hb2 := some_lt h.kb.bx
  have hK1 : KB S [] H0 nd a (fun m => ((V m ∨ m = n) ∨ ∃ j : Int, 0 ≤ j ∧ j < i ∧ Sub f.Nodes (nth (nth f.Nodes n).Kids j) m) ∨ Sub f.Nodes (nth (nth f.Nodes n).Kids i) m) H' (ed' ++ ed) := ⟨h.kb.fr.step S hS hb, by rw [hS.same _ hb2 (by omega), h.kb.bx], by rw [hS.same _ hlH (by omega), h.kb.nx], by simp, hA⟩
  have hM1 : Mine H0 M ms H' := h.mi.keep fun mid hm => by
    have := h.mi.lt hm
    exact hS.same _ this.2 (by omega)
  have hK2 := hK1.sets S (W' := fun m => (V m ∨ m = n) ∨ ∃ j : Int, 0 ≤ j ∧ j < i + 1 ∧ Sub f.Nodes (nth (nth f.Nodes n).Kids j) m) (fun m => by
    constructor
    · rintro ((h | ⟨j, j0, j1, h⟩) | h)
      · exact .inl h
      · exact .inr ⟨j, j0, by omega, h⟩
      · exact .inr ⟨i, i0, by omega, h⟩
    · rintro (h | ⟨j, j0, j1, h⟩)
      · exact .inl (.inl h)
      · by_cases hj : j = i
        · rw [hj] at h; exact .inr h
        · exact .inl (.inr ⟨j, j0, by omega, h⟩))
  have hbx := h.kb.bx
  have hbx2 := hK1.bx
  have hsc := hK1.sc S hb hs
  simp only [scell, strs, ups, nodes] at hsc
  have hml := h.ml
  by_cases k2 : (nth f.Nodes (nth (nth f.Nodes n).Kids i)).Kind = 2
  · obtain ⟨a', ms', M', H2, ed2, e2, hL2, hK3, hM3, hR3, hl3, hx3⟩ := lw_b1 S n (nth (nth f.Nodes n).Kids i) i lp inn a _ V0 H0 hA0 hb hs nd (nth f.Nodes n).Kids (nth f.Nodes (nth (nth f.Nodes n).Kids i)).Refs v6 v7 v8 (.int .i64 1) hrl hv ms M H' (ed' ++ ed) hK2 hM1 h.mr (by omega)
    simp only [ints] at e2
    refine ⟨M', H2, ed2, _, by (simp (maxSteps := 10000000) -implicitDefEqProofs +contextual (disch := omega) only [ub_impl_scoper_walk_0, rr_impl_scoper_walk, ints, Node.cells, ↓XD, XU, refs, goneIn, Nat.beq, Nat.ble, List.isEmpty, ↓reduceIte, sevalprocAttr, i1, hbx, he, hbx2, hsc, k2, e2]) <;> rfl, by simp, rfl, rfl, Nat.le_trans hS.len hL2, a', ms', hK3, hM3, hR3, by omega, fun v v0 v1 => ?_⟩
    rw [hx3 v v0 v1, h.see v v0 v1, or_assoc]
    have : LetSeen f n (i + 1) v ↔ LetSeen f n i v ∨ v ∈ (nth f.Nodes (nth (nth f.Nodes n).Kids i)).Refs := by
      constructor
      · rintro ⟨j, j0, j1, j2, j3⟩
        by_cases hj : j = i
        · rw [hj] at j3; exact .inr j3
        · exact .inl ⟨j, j0, by omega, j2, j3⟩
      · rintro (⟨j, j0, j1, j2, j3⟩ | h)
        · exact ⟨j, j0, by omega, j2, j3⟩
        · exact ⟨i, i0, by omega, k2, h⟩
    rw [this]
  · refine ⟨M, H', ed' ++ ed, _, by (simp (maxSteps := 10000000) -implicitDefEqProofs +contextual (disch := omega) only [ub_impl_scoper_walk_0, rr_impl_scoper_walk, ints, Node.cells, ↓XD, XU, refs, goneIn, Nat.beq, Nat.ble, List.isEmpty, ↓reduceIte, sevalprocAttr, i1, hbx, he, hbx2, hsc, k2]) <;> rfl, by simp, rfl, rfl, hS.len, a, ms, hK2, hM1, h.mr, by omega, fun v v0 v1 => ?_⟩
    rw [h.see v v0 v1]
    have : LetSeen f n (i + 1) v ↔ LetSeen f n i v := by
      constructor
      · rintro ⟨j, j0, j1, j2, j3⟩
        by_cases hj : j = i
        · rw [hj] at j2; exact absurd j2 k2
        · exact ⟨j, j0, by omega, j2, j3⟩
      · rintro ⟨j, j0, j1, j2, j3⟩
        exact ⟨j, j0, by omega, j2, j3⟩
    rw [this]
theorem lw_b0 (hf : FnT f) (hv : f.Vars.length ≤ 1048576) (n : Int) (n0 : 0 ≤ n) (n1 : n < f.Nodes.length) (hKd : (nth f.Nodes n).Kind = 1) (lp : Bool) (inn : List Bool) (V V0 : Int → Prop) (H0 : Heap) (hcx : Ctx f n lp inn) (hA0 : S.Acc V0 H0) (hb : base ≤ H0.length) (hP : S.Pre H0) (hs : H0[sid]? = some (.cells 9 [scell f iid (.fn g caps)])) (nd : Node) (v6 v7 v8 : PV)
    (hw : ∀ j : Int, 0 ≤ j → j < (nth f.Nodes n).Kids.length → WalkOk S (nth (nth f.Nodes n).Kids j)) (H1 : Heap) (ed1 : Edges) (h1 : BInv S n inn V H0 nd 0 .nils H1 ed1 inn []) :
    ∃ M' H' ed' a' ms', EV A (.loop (B_impl_scoper_walk 0)) ⟨[(0, .ptr sid 0 0 1), (1, .int .i64 n), (2, .bool lp), (3, .ptr H0.length 0 0 1), (6, v6), (7, v7), (8, v8), (47, .int .i64 1), (9, .nils), (63, ints (nth f.Nodes n).Kids), (64, .int .i64 (nth f.Nodes n).Kids.length), (65, .int .i64 0)], [], H1, ed1⟩ = some (.exit 3, ⟨[(0, .ptr sid 0 0 1), (1, .int .i64 n), (2, .bool lp), (3, .ptr H0.length 0 0 1), (6, v6), (7, v7), (8, v8), (47, .int .i64 1), (9, M'), (63, ints (nth f.Nodes n).Kids), (64, .int .i64 (nth f.Nodes n).Kids.length), (65, .int .i64 (nth f.Nodes n).Kids.length)], [], H', ed'⟩) ∧ BInv S n inn V H0 nd (nth f.Nodes n).Kids.length M' H' ed' a' ms' := by
  have hkl := (hf.hg.hsz n).2
  obtain ⟨r, e, M', H', ed', a', ms', rfl, h⟩ := loop_ind (P := A) (body := (B_impl_scoper_walk 0)) (fun x : Int × PV × Heap × Edges => ⟨[(0, .ptr sid 0 0 1), (1, .int .i64 n), (2, .bool lp), (3, .ptr H0.length 0 0 1), (6, v6), (7, v7), (8, v8), (47, .int .i64 1), (9, x.2.1), (63, ints (nth f.Nodes n).Kids), (64, .int .i64 (nth f.Nodes n).Kids.length), (65, .int .i64 x.1)], [], x.2.2.1, x.2.2.2⟩)
    (fun x => 0 ≤ x.1 ∧ x.1 ≤ (nth f.Nodes n).Kids.length ∧ ∃ a ms, BInv S n inn V H0 nd x.1 x.2.1 x.2.2.1 x.2.2.2 a ms) (fun x => ((nth f.Nodes n).Kids.length - x.1).toNat)
    (fun x r => ∃ M' H' ed' a' ms', r = (AExit.exit 3, (⟨[(0, .ptr sid 0 0 1), (1, .int .i64 n), (2, .bool lp), (3, .ptr H0.length 0 0 1), (6, v6), (7, v7), (8, v8), (47, .int .i64 1), (9, M'), (63, ints (nth f.Nodes n).Kids), (64, .int .i64 (nth f.Nodes n).Kids.length), (65, .int .i64 (nth f.Nodes n).Kids.length)], [], H', ed'⟩ : St)) ∧ BInv S n inn V H0 nd (nth f.Nodes n).Kids.length M' H' ed' a' ms') (by
    rintro ⟨i, M, H, ed⟩ ⟨i0, i1, a, ms, h⟩
    dsimp only at i0 i1 h ⊢
    by_cases hn : i = (nth f.Nodes n).Kids.length
    · left
      subst hn
      exact ⟨_, by simp (maxSteps := 10000000) -implicitDefEqProofs +contextual (disch := omega) only [ub_impl_scoper_walk_0, rr_impl_scoper_walk, ints, ↓XD, XU, refs, goneIn, Nat.beq, Nat.ble, List.isEmpty, ↓reduceIte, sevalprocAttr, Int.lt_irrefl], by simp, M, H, ed, a, ms, rfl, h⟩
    · right
      obtain ⟨M', H', ed', st, e, e1, rfl, rfl, hL, a', ms', h'⟩ := bd_b0 S hf hv n n0 n1 hKd lp inn V V0 H0 hcx hA0 hb hP hs nd v6 v7 v8 hw i i0 (by omega) M H ed a ms h
      have hlH := some_lt h.kb.nx
      have hcut := h'.kb.cut S hA0 hb H.length (by omega) hL [.ptr sid 0 0 1, .int .i64 n, .bool lp, .ptr H0.length 0 0 1, v6, v7, v8, .int .i64 1, M', ints (nth f.Nodes n).Kids, .int .i64 (nth f.Nodes n).Kids.length, .int .i64 (i + 1)]
      refine ⟨(i + 1, M', trim H.length [.ptr sid 0 0 1, .int .i64 n, .bool lp, .ptr H0.length 0 0 1, v6, v7, v8, .int .i64 1, M', ints (nth f.Nodes n).Kids, .int .i64 (nth f.Nodes n).Kids.length, .int .i64 (i + 1)] st.H st.ed), st, ⟨by dsimp only; omega, by dsimp only; omega, a', ms', hcut, h'.mi.keep fun mid hm => trim_keeps _ _ _ _ (.inr ?_), h'.mr, h'.ml, h'.see⟩, by dsimp only; omega, e, ?_, ?_⟩
      · simp [refsL, refs, hm]
      · simp only [St.next, List.length_cons, List.length_nil, Nat.reduceAdd, e1]
        simp
      · rintro r ⟨M', H', ed', a', ms', rfl, h⟩; exact ⟨M', H', ed', a', ms', rfl, h⟩) (0, .nils, H1, ed1) ⟨Int.le_refl _, by dsimp only; omega, inn, [], h1⟩
  exact ⟨M', H', ed', a', ms', e, h⟩
theorem lw_b2 (hf : FnT f) (hv : f.Vars.length ≤ 1048576) (n : Int) (lp : Bool) (inn : List Bool) (W V0 : Int → Prop) (H0 : Heap) (hA0 : S.Acc V0 H0) (hb : base ≤ H0.length) (hs : H0[sid]? = some (.cells 9 [scell f iid (.fn g caps)])) (hli : inn.length = f.Vars.length) (nd : Node) (v6 v7 v8 M : PV) (ms : List Int) (hml : (ms.length : Int) ≤ 3000000000000)
    (H1 : Heap) (ed : Edges) (a1 : List Bool) (hK : KB S [] H0 nd a1 W H1 ed) (hM : Mine H0 M ms H1) (hR : MR f.Vars.length inn ms a1) :
    ∃ H' ed', EV A (.loop (B_impl_scoper_walk 2)) ⟨[(0, .ptr sid 0 0 1), (1, .int .i64 n), (2, .bool lp), (3, .ptr H0.length 0 0 1), (6, v6), (7, v7), (8, v8), (47, .int .i64 1), (9, M), (63, ints (nth f.Nodes n).Kids), (64, .int .i64 (nth f.Nodes n).Kids.length), (65, .int .i64 (nth f.Nodes n).Kids.length), (130, M), (131, .int .i64 ms.length), (132, .int .i64 0)], [], H1, ed⟩ = some (.exit 7, ⟨[(0, .ptr sid 0 0 1), (1, .int .i64 n), (2, .bool lp), (3, .ptr H0.length 0 0 1), (6, v6), (7, v7), (8, v8), (47, .int .i64 1), (9, M), (63, ints (nth f.Nodes n).Kids), (64, .int .i64 (nth f.Nodes n).Kids.length), (65, .int .i64 (nth f.Nodes n).Kids.length), (130, M), (131, .int .i64 ms.length), (132, .int .i64 ms.length)], [], H', ed'⟩) ∧ KB S [] H0 nd inn W H' ed' := by
  have i1 := S.i1
  obtain ⟨r, e, H', ed', rfl, h⟩ := loop_ind (P := A) (body := (B_impl_scoper_walk 2)) (fun x : Int × Heap × Edges => ⟨[(0, .ptr sid 0 0 1), (1, .int .i64 n), (2, .bool lp), (3, .ptr H0.length 0 0 1), (6, v6), (7, v7), (8, v8), (47, .int .i64 1), (9, M), (63, ints (nth f.Nodes n).Kids), (64, .int .i64 (nth f.Nodes n).Kids.length), (65, .int .i64 (nth f.Nodes n).Kids.length), (130, M), (131, .int .i64 ms.length), (132, .int .i64 x.1)], [], x.2.1, x.2.2⟩)
    (fun x => 0 ≤ x.1 ∧ x.1 ≤ ms.length ∧ ∃ a : List Bool, KB S [] H0 nd a W x.2.1 x.2.2 ∧ Mine H0 M ms x.2.1 ∧ a.length = f.Vars.length ∧ ∀ v : Int, 0 ≤ v → v < f.Vars.length → (nth a v = true ↔ nth inn v = true ∨ v ∈ ms.drop x.1.toNat)) (fun x => (ms.length - x.1).toNat)
    (fun x r => ∃ H' ed', r = (AExit.exit 7, (⟨[(0, .ptr sid 0 0 1), (1, .int .i64 n), (2, .bool lp), (3, .ptr H0.length 0 0 1), (6, v6), (7, v7), (8, v8), (47, .int .i64 1), (9, M), (63, ints (nth f.Nodes n).Kids), (64, .int .i64 (nth f.Nodes n).Kids.length), (65, .int .i64 (nth f.Nodes n).Kids.length), (130, M), (131, .int .i64 ms.length), (132, .int .i64 ms.length)], [], H', ed'⟩ : St)) ∧ KB S [] H0 nd inn W H' ed') (by
    rintro ⟨i, H, ed⟩ ⟨i0, i2, a, hK, hM, hal, hx⟩
    dsimp only at i0 i2 hK hM hx ⊢
    by_cases hn : i = ms.length
    · left
      subst hn
      have ha : a = inn := nth_ext (by rw [hal, hli]) fun v v0 v1 => by
        rw [hal] at v1
        have := hx v v0 v1
        rw [show ms.drop (ms.length : Int).toNat = [] by simp] at this
        simp only [List.not_mem_nil, or_false] at this
        rw [Bool.eq_iff_iff]; exact this
      subst ha
      exact ⟨_, by simp (maxSteps := 10000000) -implicitDefEqProofs +contextual (disch := omega) only [ub_impl_scoper_walk_2, rr_impl_scoper_walk, ints, ↓XD, XU, refs, goneIn, Nat.beq, Nat.ble, List.isEmpty, ↓reduceIte, sevalprocAttr, Int.lt_irrefl], by simp, H, ed, rfl, hK⟩
    · right
      have i3 : i < ms.length := by omega
      have hvn := hR.new (nth ms i) (nth_mem i0 i3)
      have hbx := hK.bx
      have hin := hK.fr.inn
      have hsc := hK.sc S hb hs
      have hHl := hK.fr.len
      simp only [scell, strs, ups, nodes] at hsc
      have hK' := hK.setin S hb (a.set (nth ms i).toNat false)
      rcases hM with ⟨rfl, rfl⟩ | ⟨mid, rfl, hm1, hm2⟩
      · simp at i3; omega
      · have hlH := some_lt hK.nx
        have hcut := hK'.cut S hA0 hb H.length (by omega) (by simp) [.ptr sid 0 0 1, .int .i64 n, .bool lp, .ptr H0.length 0 0 1, v6, v7, v8, .int .i64 1, .sl mid 0 ms.length ms.length, ints (nth f.Nodes n).Kids, .int .i64 (nth f.Nodes n).Kids.length, .int .i64 (nth f.Nodes n).Kids.length, .sl mid 0 ms.length ms.length, .int .i64 ms.length, .int .i64 (i + 1)]
        refine ⟨(i + 1, trim H.length [.ptr sid 0 0 1, .int .i64 n, .bool lp, .ptr H0.length 0 0 1, v6, v7, v8, .int .i64 1, .sl mid 0 ms.length ms.length, ints (nth f.Nodes n).Kids, .int .i64 (nth f.Nodes n).Kids.length, .int .i64 (nth f.Nodes n).Kids.length, .sl mid 0 ms.length ms.length, .int .i64 ms.length, .int .i64 (i + 1)] (H.set iid (.cells 1 (bl (a.set (nth ms i).toNat false)))) ed), _, ⟨by dsimp only; omega, by dsimp only; omega, a.set (nth ms i).toNat false, hcut, .inr ⟨mid, rfl, hm1, ?_⟩, by simpa using hal, fun v v0 v1 => ?_⟩, by dsimp only; omega, by (simp (maxSteps := 10000000) -implicitDefEqProofs +contextual (disch := omega) only [ub_impl_scoper_walk_2, rr_impl_scoper_walk, ints, ↓XD, XU, refs, goneIn, Nat.beq, Nat.ble, List.isEmpty, ↓reduceIte, sevalprocAttr, i3, hbx, hsc, hin, hal, hm2, hvn.1, hvn.2.1]) <;> rfl, by simp [St.next, ints], ?_⟩
        · dsimp only; rw [trim_keeps _ _ _ _ (.inl (some_lt hm2)), List.getElem?_set_ne (by omega)]; exact hm2
        · dsimp only
          have hd : ms.drop i.toNat = nth ms i :: ms.drop (i + 1).toNat := by
            rw [List.drop_eq_getElem_cons (by omega : i.toNat < ms.length), ← nth_get i0 i3, show (i + 1).toNat = i.toNat + 1 by omega]
          rw [nth_set hvn.1 (by rw [hal]; exact hvn.2.1) v0]
          have h5 := hx v v0 v1
          rw [hd, List.mem_cons] at h5
          by_cases he : nth ms i = v
          · rw [if_pos he]
            have hnd := hR.nodup
            rw [← List.take_append_drop i.toNat ms, hd] at hnd
            have hnd2 := (List.nodup_cons.1 (List.nodup_append.1 hnd).2.1).1
            constructor
            · intro h; cases h
            · rintro (h | h)
              · exact absurd h (he ▸ hvn.2.2)
              · exact absurd h (he ▸ hnd2)
          · rw [if_neg he, h5]
            exact ⟨fun h => h.elim .inl (fun h => h.elim (fun h => absurd h.symm he) .inr), fun h => h.elim .inl (fun h => .inr (.inr h))⟩
        · rintro r ⟨H', ed', rfl, h⟩; exact ⟨H', ed', rfl, h⟩) (0, H1, ed) ⟨Int.le_refl _, by dsimp only; omega, a1, hK, hM, hR.len, fun v v0 v1 => by rw [hR.is v v0 v1]; simp⟩
  exact ⟨H', ed', e, h⟩
end
end Go.Proofs.Try.Av
end
section
attribute [local congr] ite_congr
set_option linter.unusedSimpArgs false
set_option linter.unusedVariables false
set_option maxRecDepth 10000
set_option maxHeartbeats 1000000
namespace Go.Proofs.Try.Av
open Go Go.Av Classical
section
variable {f : Fn} {sid iid cid base g : Nat} {caps : List PV} (S : See f sid iid cid base g caps)
theorem Mine.len {H0 H : Heap} {M : PV} {ms : List Int} (h : Mine H0 M ms H) : lenV M = some (.int .i64 ms.length) := by
  rcases h with ⟨rfl, rfl⟩ | ⟨m, rfl, _⟩ <;> rfl
theorem walk_block (hf : FnT f) (hb0 : f.Vars.length ≤ 1048576) (n : Int) (n0 : 0 ≤ n) (n1 : n < f.Nodes.length) (hK : (nth f.Nodes n).Kind = 1)
    (hw : ∀ j : Int, 0 ≤ j → j < (nth f.Nodes n).Kids.length → WalkOk S (nth (nth f.Nodes n).Kids j)) : WalkOk S n := by
  intro lp inn V H0 hc hb hP hs hi hA
  obtain ⟨H1, e1, p⟩ := walk_pro S n n0 n1 lp inn V H0 hc hb hP hs hi hA
  have k0 := p.kb
  have hkl := (hf.hg.hsz n).2
  have k1 : KB S [] H0 (nth f.Nodes n) inn (fun m => (V m ∨ m = n) ∨ ∃ j : Int, 0 ≤ j ∧ j < 0 ∧ Sub f.Nodes (nth (nth f.Nodes n).Kids j) m) (H1 ++ [.cells 1 (bl inn), .cells 1 [[.sl H1.length 0 f.Vars.length f.Vars.length]]]) e1 :=
    KB.sets S (⟨k0.fr, k0.bx, k0.nx, by simp, k0.acc⟩ : KB S [] H0 (nth f.Nodes n) inn (fun m => V m ∨ m = n) _ e1) fun m => ⟨.inl, fun h => h.elim id (fun ⟨j, j0, j1, _⟩ => by omega)⟩
  obtain ⟨M', H3, e3, a', ms', el, b1⟩ := lw_b0 S hf hb0 n n0 n1 hK lp inn V V H0 hc hA hb hP hs (nth f.Nodes n) (.ptr (H0.length + 1) 0 0 1) (.ptr (H1.length + 1) 0 0 1) (.fn n_impl_scoper_walk_S1 [.ptr H0.length 0 0 1, .ptr (H1.length + 1) 0 0 1, .ptr (H0.length + 1) 0 0 1]) hw _ _
    ⟨k1, .inl ⟨rfl, rfl⟩, ⟨hc.len, fun v _ _ => by simp, by simp, List.nodup_nil⟩, by simp, fun v _ _ => ⟨.inl, fun h => h.elim id (fun ⟨j, j0, j1, _⟩ => by omega)⟩⟩
  have hml := b1.ml
  obtain ⟨H4, e4, el2, k4⟩ := lw_b2 S hf hb0 n lp inn _ V H0 hA hb hs hc.len (nth f.Nodes n) (.ptr (H0.length + 1) 0 0 1) (.ptr (H1.length + 1) 0 0 1) (.fn n_impl_scoper_walk_S1 [.ptr H0.length 0 0 1, .ptr (H1.length + 1) 0 0 1, .ptr (H0.length + 1) 0 0 1]) M' ms' (by omega) H3 e3 a' b1.kb b1.mi b1.mr
  have hlm := b1.mi.len
  have hfin := k4.fr.fin S hi hA k4.acc hb []
  refine ⟨_, _, ?_, ?_, hfin.1⟩
  · have s0 := p.s0
    have q0 := p.q0
    have q1 := p.q1
    have q3 := p.q3
    have he := p.he
    simp only [scell, strs, ups, nodes] at s0 q1 q0
    simp only [Node.cells, ints, hK] at q3 he
    have hlb : (bl inn).length * 1 ≤ 35184372088832 := by have := hc.len; simp; omega
    have ha := appendTo_nils H1 1 1 (bl inn) hlb
    have hl := hc.len
    simp only [ints] at el el2
    simp (maxSteps := 10000000) -implicitDefEqProofs +contextual (disch := omega) only [s_impl_scoper_walk, u_impl_scoper_walk, rr_impl_scoper_walk, scell, strs, ups, nodes, Node.cells, ints, ↓e_append, appK_some, ↓XD, XU, refs, goneIn, Nat.beq, Nat.ble, List.isEmpty, ↓reduceIte, sevalprocAttr, s0, he, q0, p.q00, q1, p.q2, q3, p.r1, p.r2, ha, hl, hK, p.nl, el, el2, hlm]
  · refine cast (congrArg (fun P => S.Acc P _) (funext fun m => propext ?_)) hfin.2
    rw [sub_iff f.Nodes n m, or_assoc]
omit S in
theorem kids_stat {ns : List Node} {n : Int} (h : Shape ns n) : ((nth ns n).Kind = 6 ∨ (nth ns n).Kind = 7 ∨ (nth ns n).Kind = 8 → 1 ≤ (nth ns n).Kids.length) ∧ ((nth ns n).Kind = 12 → (nth ns n).Kids.length = 2) := by
  obtain ⟨_, _, h | h⟩ := h
  · have h2 := h.2.2.2
    simp only [Stmt] at h2
    constructor
    · intro hk
      rcases h2 with h | h | h | h | h | h | h | h | h | h | h | h <;> omega
    · intro hk
      rcases h2 with h | h | h | h | h | h | h | h | h | h | h | h <;> omega
  · have h2 := h.1
    simp only [isStat] at h2
    constructor <;> intro hk <;> omega
theorem walk_ok (hf : FnT f) (hb0 : f.Vars.length ≤ 1048576) (n : Int) (n0 : 0 ≤ n) (n1 : n < f.Nodes.length) : WalkOk S n := by
  have : ∀ k : Nat, ∀ n : Int, n.toNat < k → 0 ≤ n → n < f.Nodes.length → WalkOk S n := by
    intro k
    induction k with
    | zero => intro n h; omega
    | succ k ih =>
      intro n hk n0 n1
      have hw : ∀ j : Int, 0 ≤ j → j < (nth f.Nodes n).Kids.length → WalkOk S (nth (nth f.Nodes n).Kids j) := fun j j0 j1 => by
        have := hf.kid n0 n1 j0 j1
        exact ih _ (by omega) this.1 (by omega)
      have hsh := hf.hsh n n0 n1
      by_cases h1 : (nth f.Nodes n).Kind = 1
      · exact walk_block S hf hb0 n n0 n1 h1 hw
      by_cases h7 : (nth f.Nodes n).Kind = 7
      · exact walk_7 S hf hb0 n n0 n1 h7 ((kids_stat hsh).1 (by omega)) hw
      by_cases h8 : (nth f.Nodes n).Kind = 8
      · exact walk_8 S hf hb0 n n0 n1 h8 ((kids_stat hsh).1 (by omega)) hw
      by_cases h6 : (nth f.Nodes n).Kind = 6
      · exact walk_6 S hf hb0 n n0 n1 h6 ((kids_stat hsh).1 (by omega)) hw
      by_cases h12 : (nth f.Nodes n).Kind = 12
      · exact walk_try S hf hb0 n n0 n1 h12 ((kids_stat hsh).2 h12) hw
      exact walk_default S hf hb0 n n0 n1 ⟨h1, h7, h8, h6, h12⟩ hw
  exact this (n.toNat + 1) n (by omega) n0 n1
end
end Go.Proofs.Try.Av
end
section
attribute [local congr] ite_congr
set_option linter.unusedSimpArgs false
set_option linter.unusedVariables false
set_option maxRecDepth 10000
set_option maxHeartbeats 1000000
namespace Go.Proofs.Try.Av
open Go Go.Av Classical
theorem Sub.tail {ns : List Node} {a p : Int} (h : Sub ns a p) {j : Int} (j0 : 0 ≤ j) (j1 : j < (nth ns p).Kids.length) : Sub ns a (nth (nth ns p).Kids j) := by
  induction h with
  | self n => exact .kid j0 j1 (.self _)
  | kid i0 i1 _ ih => exact .kid i0 i1 (ih j1)
theorem sub_root {f : Fn} (hf : FnT f) (m : Int) (m0 : 0 ≤ m) (m1 : m < f.Nodes.length) : Sub f.Nodes ((f.Nodes.length : Int) - 1) m := by
  have : ∀ k : Nat, ∀ m : Int, (f.Nodes.length - m).toNat < k → 0 ≤ m → m < f.Nodes.length → Sub f.Nodes ((f.Nodes.length : Int) - 1) m := by
    intro k
    induction k with
    | zero => intro m h; omega
    | succ k ih =>
      intro m hk m0 m1
      by_cases he : m = (f.Nodes.length : Int) - 1
      · rw [he]; exact .self _
      · have h4 := hf.h4 m m0 m1
        rcases hf.ht.2 m m0 m1 with h | ⟨h, h2, h3⟩
        · exact absurd (.inl ⟨he, by omega⟩) h4
        · have hp := place_mem (place_nonneg h3).1
          have := ih (nth (growP f.Nodes) m) (by omega) (by omega) h2
          have h5 := this.tail hp.1 hp.2.1
          rw [hp.2.2] at h5
          exact h5
  exact this _ m (Nat.lt_succ_self _) m0 m1
theorem sub_range {f : Fn} (hf : FnT f) {n m : Int} (h : Sub f.Nodes n m) (n0 : 0 ≤ n) (n1 : n < f.Nodes.length) : 0 ≤ m ∧ m < f.Nodes.length := by
  induction h with
  | self n => exact ⟨n0, n1⟩
  | kid j0 j1 _ ih =>
    have := hf.kid n0 n1 j0 j1
    exact ih this.1 (by omega)
theorem nth_seen0 (f : Fn) (hp0 : 0 ≤ f.Params) (hp : f.Params ≤ f.Vars.length) : (seen0 f).length = f.Vars.length ∧ ∀ v : Int, 0 ≤ v → v < f.Vars.length → (nth (seen0 f) v = true ↔ v < f.Params) := by
  have := iter_inv (g := fun (i : Int) (a : List Bool) => a.set i.toNat true) (fun i (b : List Bool) => b.length = f.Vars.length ∧ ∀ v : Int, 0 ≤ v → v < f.Vars.length → (nth b v = true ↔ v < i)) 0 f.Params (by
    rintro i b i0 i1 ⟨hl, h⟩
    refine ⟨by simpa using hl, fun v v0 v1 => ?_⟩
    rw [nth_set i0 (by omega) v0]
    by_cases he : i = v
    · rw [if_pos he]; simp; omega
    · rw [if_neg he, h v v0 v1]; omega) (a := List.replicate f.Vars.length false) hp0 ⟨by simp, fun v v0 v1 => by
      have : nth (List.replicate f.Vars.length false) v = false := by
        have h1 : v.toNat < f.Vars.length := by omega
        simp [nth, List.getD, List.getElem?_replicate, h1]
      rw [this]; simp; omega⟩
  exact this
theorem ctx_root {f : Fn} (hf : FnT f) : Ctx f ((f.Nodes.length : Int) - 1) false (seen0 f) := by
  have hs := nth_seen0 f hf.hp0 hf.hp
  have h1 := hf.hg.h1
  have hl := growP_last f.Nodes hf.hg.hki h1
  refine ⟨hs.1, fun v v0 v1 => ?_, ?_⟩
  · rw [hs.2 v v0 v1, Visible, hl]
    exact ⟨.inl, fun h => h.resolve_right (vis_end (by omega))⟩
  · rw [hl]
    exact ⟨fun h => (by cases h), fun h => absurd h (inloop_end (by omega))⟩
theorem lw_par (f : Fn) (H : Heap) (g : Nat) (caps : List PV) (hv : f.Vars.length ≤ 1048576) (hp0 : 0 ≤ f.Params) (hp : f.Params ≤ f.Vars.length) (a0 : List Bool) (hok0 : a0.length = f.Vars.length) : EV A (.loop (B_impl_scopes 0)) (⟨[(0, .agg f.cells), (1, .fn g caps), (2, .ptr H.length 0 0 1), (4, .ptr (H.length + 2) 0 0 1), (15, .int .i64 f.Params), (16, .int .i64 (0))], [], H ++ [.cells 7 [f.cells], .cells 1 (bl a0), .cells 9 [scell f (H.length + 1) (.fn g caps)]], []⟩ : St) = some (AExit.exit 0, (⟨[(0, .agg f.cells), (1, .fn g caps), (2, .ptr H.length 0 0 1), (4, .ptr (H.length + 2) 0 0 1), (15, .int .i64 f.Params), (16, .int .i64 (f.Params))], [], H ++ [.cells 7 [f.cells], .cells 1 (bl (iter (fun (i : Int) (a : List Bool) => a.set i.toNat true) ((f.Params : Int) - 0).toNat (0) a0)), .cells 9 [scell f (H.length + 1) (.fn g caps)]], []⟩ : St)) ∧ (iter (fun (i : Int) (a : List Bool) => a.set i.toNat true) ((f.Params : Int) - 0).toNat (0) a0).length = f.Vars.length := by
  refine loop_iter (fun i (a : List Bool) => (⟨[(0, .agg f.cells), (1, .fn g caps), (2, .ptr H.length 0 0 1), (4, .ptr (H.length + 2) 0 0 1), (15, .int .i64 f.Params), (16, .int .i64 i)], [], H ++ [.cells 7 [f.cells], .cells 1 (bl a), .cells 9 [scell f (H.length + 1) (.fn g caps)]], []⟩ : St)) (fun (i : Int) (a : List Bool) => a.set i.toNat true) (fun i (a : List Bool) => a.length = f.Vars.length) (fun a => (AExit.exit 0, (⟨[(0, .agg f.cells), (1, .fn g caps), (2, .ptr H.length 0 0 1), (4, .ptr (H.length + 2) 0 0 1), (15, .int .i64 f.Params), (16, .int .i64 (f.Params))], [], H ++ [.cells 7 [f.cells], .cells 1 (bl a), .cells 9 [scell f (H.length + 1) (.fn g caps)]], []⟩ : St))) (0) (f.Params) ?_ ?_ (0) a0 (by omega) (by omega) hok0
  · intro i a hi hn hok
    refine ⟨⟨_, by simp (maxSteps := 10000000) -implicitDefEqProofs +contextual (disch := omega) only [ub_impl_scopes_0, rr_impl_scopes, ↓XD, XU, refs, goneIn, Nat.beq, Nat.ble, List.isEmpty, ↓reduceIte, sevalprocAttr, bl, scell, Fn.cells, nodes, strs, ups, ints, hn, hok]; rfl, by first | (simp [St.next, trim_all]; done) | (simp [St.next, trim_all]; omega) | (simp [St.next, trim, bare, refsL, refs]; done)⟩, by simp; omega⟩
  · rintro i a hi rfl hok
    refine ⟨by simp (maxSteps := 10000000) -implicitDefEqProofs +contextual (disch := omega) only [ub_impl_scopes_0, rr_impl_scopes, ↓XD, XU, refs, goneIn, Nat.beq, Nat.ble, List.isEmpty, ↓reduceIte, sevalprocAttr, bl, scell, Fn.cells, nodes, strs, ups, ints, Int.lt_irrefl, hok], by simp⟩
theorem es_scopes {f : Fn} (hf : FnT f) (H : Heap) {cid g : Nat} {caps : List PV} (hcid : cid < H.length) (S : See f (H.length + 2) (H.length + 1) cid (H.length + 3) g caps)
    (hP : S.Pre (H ++ [.cells 7 [f.cells], .cells 1 (bl (seen0 f)), .cells 9 [scell f (H.length + 1) (.fn g caps)]])) (hA : S.Acc (fun _ => False) (H ++ [.cells 7 [f.cells], .cells 1 (bl (seen0 f)), .cells 9 [scell f (H.length + 1) (.fn g caps)]])) :
    ∃ H' ed', ES A n_impl_scopes [.agg f.cells, .fn g caps] H = some (.tup [], H', ed') ∧ S.Acc (fun m : Int => 0 ≤ m ∧ m < f.Nodes.length) H' ∧ (∀ id, id < H.length → id ≠ cid → H'[id]? = H[id]?) ∧ H.length ≤ H'.length ∧ ∀ e ∈ ed', (e.1 = cid ∧ cid < e.2) ∧ e.2 < H'.length := by
  have hb := hf.hg.hb
  have h1 := hf.hg.h1
  have hl := lw_par f H g caps hf.hv hf.hp0 hf.hp (List.replicate f.Vars.length false) (by simp)
  have hS : seen0 f = iter (fun (i : Int) (a : List Bool) => a.set i.toNat true) (f.Params - 0).toNat 0 (List.replicate f.Vars.length false) := rfl
  rw [← hS] at hl
  obtain ⟨H', ed', he, hA2, hst⟩ := walk_ok S hf hf.hv ((f.Nodes.length : Int) - 1) (by omega) (by omega) false (seen0 f) _ _ (ctx_root hf) (by simp) hP (by rw [app_get]; rfl) (by rw [app_get]; rfl) hA
  have hb2 := hf.hv
  have hin : ∀ r es, (H ++ [Blk.cells 7 [f.cells], .cells 1 (bl (seen0 f)), .cells 9 [scell f (H.length + 1) (.fn g caps)]])[r]? = some (.map es) → r < H.length := fun r es h => by
    rcases Nat.lt_or_ge r H.length with h2 | h2
    · exact h2
    · rw [List.getElem?_append_right h2] at h
      have : r - H.length = 0 ∨ r - H.length = 1 ∨ r - H.length = 2 ∨ 3 ≤ r - H.length := by omega
      rcases this with e | e | e | e
      · rw [e] at h; cases h
      · rw [e] at h; cases h
      · rw [e] at h; cases h
      · rw [List.getElem?_eq_none (by simpa using e)] at h; cases h
  have hset : (fun m : Int => False ∨ Sub f.Nodes ((f.Nodes.length : Int) - 1) m) = fun m : Int => 0 ≤ m ∧ m < f.Nodes.length := funext fun m => propext ⟨fun h => sub_range hf (h.resolve_left id) (by omega) (by omega), fun h => .inr (sub_root hf m h.1 h.2)⟩
  rw [hset] at hA2
  have hlen : H.length + 3 ≤ H'.length := by have := hst.len; simpa using this
  refine ⟨(trim H.length [] H' ed').1, (trim H.length [] H' ed').2, ?_, ?_, fun id h2 h3 => ?_, trim_len _ _ _ _ (by omega), fun e he => ?_⟩
  · simp only [scell, strs, ups, nodes] at he
    have hl := hl.1
    simp only [bl, scell, strs, ups, nodes] at hl he
    simp (maxSteps := 10000000) -implicitDefEqProofs +contextual (disch := omega) only [s_impl_scopes, u_impl_scopes, rr_impl_scopes, bl, scell, Fn.cells, strs, ups, nodes, ints, ↓XD, XU, refs, goneIn, Nat.beq, Nat.ble, List.isEmpty, ↓reduceIte, sevalprocAttr, hl, he]
  · rcases trim_cases H.length [] H' ed' with e | ⟨e, he2⟩
    · rw [e]; exact hA2
    · rw [e]
      refine S.stable _ H' _ hA2 (by show (H'.take _)[cid]? = _; rw [List.getElem?_take, if_pos hcid]) fun b r hb hr => ?_
      have hr2 : r < H.length := by
        rcases hst.fw b r hb hr with ⟨b0, h5, h6⟩ | h5
        · obtain ⟨es, h7⟩ := S.maps _ _ hA b0 r h5 h6
          exact hin r es h7
        · rcases he2 _ h5 with h6 | h6
          · dsimp only at h6; omega
          · exact h6
      show (H'.take _)[r]? = _
      rw [List.getElem?_take, if_pos hr2]
  · rw [trim_keeps _ _ _ _ (.inl h2), hst.same id (by simp; omega) h3, List.getElem?_append_left h2]
  · rcases trim_cases H.length [] H' ed' with e2 | ⟨e2, _⟩
    · rw [e2] at he ⊢; exact hst.bd e he
    · rw [e2] at he ⊢
      have h5 := List.mem_filter.1 he
      refine ⟨(hst.bd e h5.1).1, ?_⟩
      show e.2 < (H'.take _).length
      rw [List.length_take]; have := h5.2; simp at this; omega
end Go.Proofs.Try.Av
end
section
attribute [local congr] ite_congr
set_option linter.unusedSimpArgs false
set_option linter.unusedVariables false
set_option maxRecDepth 10000
set_option maxHeartbeats 1000000
namespace Go.Proofs.Try.Av
open Go Go.Av Classical
theorem e_mkmap {P : AProg} (st : St) : evOp P.glob (CL P) st .mkmap = some (.mp st.H.length, st.H ++ [.map []], []) := rfl
def insK (H : Heap) (tag : Nat) (m k v : PV) : Option (PV × Heap × Edges) := match m with
    | .mp id => match H[id]? with
      | some (.map es) => match findKey tag k es with
        | some none => some (.und, H.set id (.map (es ++ [(k, v)])), edgesTo id [k, v])
        | _ => none
      | _ => none
    | _ => none
def tgtM : PV → Option (Option Nat)
  | .mp id => some (some id)
  | _ => none
def insC (H : Heap) (tag : Nat) (m k v x : PV) : Option (PV × Heap × Edges) :=
  match clearOf (tgtM m) x with
  | true => insK H tag m k v
  | false => none
theorem e_insert1 {P : AProg} (d : Option (Bool × Nat)) (gd : Option (Opd × Bool)) (tag : Nat) (m k v x : Opd) (st : St) : evOper P.glob (CL P) st ⟨d, .insert tag m k v, gd, false, [x]⟩ = insC st.H tag (m.get P.glob st) (k.get P.glob st) (v.get P.glob st) (x.get P.glob st) := by
  have h0 : evOper P.glob (CL P) st ⟨d, .insert tag m k v, gd, false, [x]⟩ = match okNow P.glob st ⟨d, .insert tag m k v, gd, false, [x]⟩ with
      | true => match evOp P.glob (CL P) st (.insert tag m k v) with
        | some r => match !false || (refs r.1).isEmpty with | true => some r | false => none
        | none => none
      | false => none := rfl
  have h1 : okNow P.glob st ⟨d, .insert tag m k v, gd, false, [x]⟩ = clearOf (tgtM (m.get P.glob st)) (x.get P.glob st) := by
    show (true && (clearOf _ _ && true)) = _
    rw [Bool.true_and, Bool.and_true]; rfl
  have h2 : evOp P.glob (CL P) st (.insert tag m k v) = insK st.H tag (m.get P.glob st) (k.get P.glob st) (v.get P.glob st) := rfl
  rw [h0, h1, insC, h2]
  cases clearOf (tgtM (m.get P.glob st)) (x.get P.glob st) with
  | false => rfl
  | true => cases insK st.H tag (m.get P.glob st) (k.get P.glob st) (v.get P.glob st) <;> rfl
theorem ins_one (H : Heap) (v : Int) (b : Bool) (q a c d : Nat) (hq : q < H.length) : insC (H ++ [.map []]) 0 (.mp H.length) (.int .i64 v) (.bool b) (.ptr q a c d) = some (.und, H ++ [.map [(.int .i64 v, .bool b)]], []) := by
  have h1 : clearOf (some (some H.length)) (.ptr q a c d) = true := by
    show (!(Nat.beq H.length q)) = true
    have : Nat.beq H.length q = false := by
      cases hb : Nat.beq H.length q with
      | false => rfl
      | true => have := Nat.eq_of_beq_eq_true hb; omega
    rw [this]; rfl
  simp only [insC, tgtM, h1, insK]
  have h2 : (H ++ [Blk.map []])[H.length]? = some (.map []) := by simp
  have h3 : (H ++ [Blk.map []]).set H.length (.map [(.int .i64 v, .bool b)]) = H ++ [.map [(.int .i64 v, .bool b)]] := by simp
  rw [h2]
  show some (PV.und, (H ++ [Blk.map []]).set H.length (.map [(.int .i64 v, .bool b)]), edgesTo H.length [.int .i64 v, .bool b]) = _
  rw [h3]; rfl
end Go.Proofs.Try.Av
end
section
attribute [local congr] ite_congr
set_option linter.unusedSimpArgs false
set_option linter.unusedVariables false
set_option maxRecDepth 10000
set_option maxHeartbeats 1000000
namespace Go.Proofs.Try.Av
open Go Go.Av Classical
section
variable (f : Fn) (n : Int) (inn : List Bool) (lp : Bool) (H : Heap) (rows : List (List PV)) (fb cid bid iid : Nat) (n0 : 0 ≤ n) (n1 : n < f.Nodes.length) (hv : f.Vars.length ≤ 1048576) (hb : f.Nodes.length ≤ 1048576) (hf : H[fb]? = some (.cells 7 [f.cells])) (hbx : H[bid]? = some (.cells 1 [[.sl cid 0 f.Nodes.length f.Nodes.length]])) (hc : H[cid]? = some (.cells 1 rows)) (hr : rows.length = f.Nodes.length) (hi : H[iid]? = some (.cells 1 (bl inn))) (hl : inn.length = f.Vars.length)
include n0 n1 hv hb hf hbx hc hr hi hl
theorem es_S1_no (hK : ¬(nth f.Nodes n).Kind = 26) : ES A n_impl_CheckUnit_S1 [.int .i64 n, .sl iid 0 f.Vars.length f.Vars.length, .bool lp, .ptr fb 0 0 1, .ptr bid 0 0 1] H = some (.tup [], H, []) := by
  simp only [Fn.cells, nodes] at hf
  simp (maxSteps := 10000000) -implicitDefEqProofs +contextual (disch := omega) only [s_impl_CheckUnit_S1, u_impl_CheckUnit_S1, rr_impl_CheckUnit_S1, Fn.cells, Node.cells, strs, ups, nodes, ints, ↓XD, XU, refs, goneIn, Nat.beq, Nat.ble, List.isEmpty, ↓reduceIte, sevalprocAttr, hf, hbx, hc, hr, hi, hl, n0, n1, hK]
  simp [trim, bare, refsL, refs]
theorem es_S1_yes (hK : (nth f.Nodes n).Kind = 26) (hk1 : (nth f.Nodes n).Refs.length = 1) (p : PV) (hp : nth rows n = [p]) : ∃ b : Bool, (b = true ↔ 0 ≤ nth (nth f.Nodes n).Refs 0 ∧ nth (nth f.Nodes n).Refs 0 < f.Vars.length ∧ nth inn (nth (nth f.Nodes n).Refs 0) = true) ∧ ES A n_impl_CheckUnit_S1 [.int .i64 n, .sl iid 0 f.Vars.length f.Vars.length, .bool lp, .ptr fb 0 0 1, .ptr bid 0 0 1] H = some (.tup [], (H ++ [Blk.cells 8 [(nth f.Nodes n).cells], Blk.map [(.int .i64 (nth (nth f.Nodes n).Refs 0), .bool b)]]).set cid (.cells 1 (rows.set n.toNat [.mp (H.length + 1)])), [(cid, H.length + 1)]) := by
  have q1 : ∀ l, (H ++ l)[bid]? = some (.cells 1 [[.sl cid 0 f.Nodes.length f.Nodes.length]]) := fun l => app_old _ _ hbx
  have q2 : ∀ l, (H ++ l)[cid]? = some (.cells 1 rows) := fun l => app_old _ _ hc
  have q3 : ∀ l, (H ++ l)[iid]? = some (.cells 1 (bl inn)) := fun l => app_old _ _ hi
  have hcl := some_lt hc
  have hbl := some_lt hbx
  have hclt : cid < H.length + 1 := by omega
  have ht : ∀ H2, trim H.length [] H2 [(cid, H.length + 1)] = (H2, [(cid, H.length + 1)]) := fun H2 => by
    have h1 : ¬H.length ≤ cid := by omega
    have h2 : ¬H.length + 1 < H.length := by omega
    simp [trim, h1, h2]
  simp only [Fn.cells, nodes] at hf
  have hins := fun b => ins_one (H ++ [Blk.cells 8 [(nth f.Nodes n).cells]]) (nth (nth f.Nodes n).Refs 0) b bid 0 0 1 (by simp; omega)
  simp only [Node.cells, ints, hK, List.append_assoc, List.cons_append, List.nil_append, List.length_append, List.length_cons, List.length_nil, Nat.zero_add] at hins
  by_cases k1 : 0 ≤ nth (nth f.Nodes n).Refs 0
  · by_cases k2 : nth (nth f.Nodes n).Refs 0 < f.Vars.length
    · refine ⟨nth inn (nth (nth f.Nodes n).Refs 0), by simp [k1, k2], ?_⟩
      simp (maxSteps := 10000000) -implicitDefEqProofs +contextual (disch := omega) only [s_impl_CheckUnit_S1, u_impl_CheckUnit_S1, rr_impl_CheckUnit_S1, Fn.cells, Node.cells, strs, ups, nodes, ints, e_mkmap, e_insert1, ↓XD, XU, refs, goneIn, Nat.beq, Nat.ble, List.isEmpty, ↓reduceIte, sevalprocAttr, hf, hbx, hc, hr, hi, hl, n0, n1, hK, hk1, k2, k1, k2, q1, q2, q3, hins, hp, hclt, ht]
    · refine ⟨false, by simp [k2], ?_⟩
      simp (maxSteps := 10000000) -implicitDefEqProofs +contextual (disch := omega) only [s_impl_CheckUnit_S1, u_impl_CheckUnit_S1, rr_impl_CheckUnit_S1, Fn.cells, Node.cells, strs, ups, nodes, ints, e_mkmap, e_insert1, ↓XD, XU, refs, goneIn, Nat.beq, Nat.ble, List.isEmpty, ↓reduceIte, sevalprocAttr, hf, hbx, hc, hr, hi, hl, n0, n1, hK, hk1, k2, k1, k2, q1, q2, q3, hins, hp, hclt, ht]
  · refine ⟨false, by simp [k1], ?_⟩
    simp (maxSteps := 10000000) -implicitDefEqProofs +contextual (disch := omega) only [s_impl_CheckUnit_S1, u_impl_CheckUnit_S1, rr_impl_CheckUnit_S1, Fn.cells, Node.cells, strs, ups, nodes, ints, e_mkmap, e_insert1, ↓XD, XU, refs, goneIn, Nat.beq, Nat.ble, List.isEmpty, ↓reduceIte, sevalprocAttr, hf, hbx, hc, hr, hi, hl, n0, n1, hK, hk1, k1, q1, q2, q3, hins, hp, hclt, ht]
end
end Go.Proofs.Try.Av
end
section
set_option linter.unusedSimpArgs false
set_option linter.unusedVariables false
set_option maxRecDepth 10000
set_option maxHeartbeats 1000000
namespace Go.Proofs.Try.Av
open Go Go.Av Classical
theorem brefs_cells {s : Nat} {rows : List (List PV)} {r : Nat} : r ∈ brefs (.cells s rows) ↔ ∃ m : Int, 0 ≤ m ∧ m < rows.length ∧ r ∈ refsL (nth rows m) := by
  show r ∈ rows.flatMap refsL ↔ _
  rw [List.mem_flatMap]
  constructor
  · rintro ⟨x, hx, hr⟩
    obtain ⟨i, hi, rfl⟩ := List.getElem_of_mem hx
    refine ⟨(i : Int), by omega, by omega, ?_⟩
    rw [nth, List.getD_eq_getElem?_getD, Int.toNat_natCast, List.getElem?_eq_getElem hi]; exact hr
  · rintro ⟨m, m0, m1, hr⟩
    refine ⟨nth rows m, ?_, hr⟩
    have hi : m.toNat < rows.length := by omega
    rw [nth, List.getD_eq_getElem?_getD, List.getElem?_eq_getElem hi]
    exact List.getElem_mem hi
theorem nth_set_rows {α : Type} [Inhabited α] {l : List α} {i j : Int} {x : α} (i0 : 0 ≤ i) (i1 : i < l.length) (j0 : 0 ≤ j) : nth (l.set i.toNat x) j = if i = j then x else nth l j := nth_set i0 i1 j0
structure Maps (f : Fn) (cid : Nat) (V : Int → Prop) (H : Heap) (rows : List (List PV)) : Prop where
  blk : H[cid]? = some (.cells 1 rows)
  len : rows.length = f.Nodes.length
  row : ∀ m : Int, 0 ≤ m → m < f.Nodes.length → (nth rows m = [.nilm] ∧ ¬(V m ∧ (nth f.Nodes m).Kind = 26)) ∨ ∃ id b, nth rows m = [.mp id] ∧ H[id]? = some (.map [(.int .i64 (nth (nth f.Nodes m).Refs 0), .bool b)]) ∧ (b = true ↔ 0 ≤ nth (nth f.Nodes m).Refs 0 ∧ nth (nth f.Nodes m).Refs 0 < f.Vars.length ∧ Visible f (growP f.Nodes) m (nth (nth f.Nodes m).Refs 0))
theorem Maps.ref {f : Fn} {cid : Nat} {V : Int → Prop} {H : Heap} {rows : List (List PV)} (h : Maps f cid V H rows) {b : Blk} {r : Nat} (hb : H[cid]? = some b) (hr : r ∈ brefs b) : ∃ (m : Int) (id : Nat), 0 ≤ m ∧ m < f.Nodes.length ∧ nth rows m = [.mp id] ∧ r = id := by
  rw [h.blk] at hb
  cases hb
  obtain ⟨m, m0, m1, hm⟩ := brefs_cells.1 hr
  rw [h.len] at m1
  rcases h.row m m0 m1 with ⟨h1, _⟩ | ⟨id, b, h1, _⟩
  · rw [h1] at hm; simp [refsL, refs] at hm
  · rw [h1] at hm; exact ⟨m, id, m0, m1, h1, by simpa [refsL, refs] using hm⟩
theorem Maps.stable {f : Fn} {cid : Nat} {V : Int → Prop} {H H' : Heap} {rows : List (List PV)} (h : Maps f cid V H rows) (h1 : H'[cid]? = H[cid]?) (h2 : ∀ b r, H[cid]? = some b → r ∈ brefs b → H'[r]? = H[r]?) : Maps f cid V H' rows := by
  refine ⟨by rw [h1, h.blk], h.len, fun m m0 m1 => ?_⟩
  rcases h.row m m0 m1 with h3 | ⟨id, b, h3, h4, h5⟩
  · exact .inl h3
  · refine .inr ⟨id, b, h3, ?_, h5⟩
    rw [h2 _ id h.blk (brefs_cells.2 ⟨m, m0, by rw [h.len]; exact m1, by rw [h3]; simp [refsL, refs]⟩), h4]
def See1 (f : Fn) (hf : FnT f) (h fb cid bid : Nat) (d1 : fb < h) (d2 : cid < h) (d3 : bid < h) (c1 : fb ≠ cid) (c2 : bid ≠ cid) : See f (h + 2) (h + 1) cid (h + 3) n_impl_CheckUnit_S1 [.ptr fb 0 0 1, .ptr bid 0 0 1] where
  Acc V H := ∃ rows, Maps f cid V H rows
  Pre H := H[fb]? = some (.cells 7 [f.cells]) ∧ H[bid]? = some (.cells 1 [[.sl cid 0 f.Nodes.length f.Nodes.length]])
  stable := fun V H H' ⟨rows, h⟩ h1 h2 => ⟨rows, h.stable h1 h2⟩
  maps := fun V H ⟨rows, h⟩ b r hb hr => by
    obtain ⟨m, id, m0, m1, h3, rfl⟩ := h.ref hb hr
    rcases h.row m m0 m1 with ⟨h4, _⟩ | ⟨id, b, h4, h5, _⟩
    · rw [h3] at h4; cases h4
    · rw [h3] at h4; cases h4; exact ⟨_, h5⟩
  pre := fun H H' ⟨h1, h2⟩ h3 => ⟨by rw [h3 fb (by omega) c1 (by omega), h1], by rw [h3 bid (by omega) c2 (by omega), h2]⟩
  see := fun n lp inn V H n0 n1 hc hb ⟨p1, p2⟩ hi ⟨rows, hm⟩ => by
    by_cases hK : (nth f.Nodes n).Kind = 26
    · have hr1 := hf.hr n n0 n1 (.inl hK)
      have hcl : cid < H.length := by omega
      have hp : ∃ p, nth rows n = [p] := by
        rcases hm.row n n0 n1 with ⟨h3, _⟩ | ⟨id, b, h3, _⟩ <;> exact ⟨_, h3⟩
      obtain ⟨p, hp⟩ := hp
      obtain ⟨b, hbv, he⟩ := es_S1_yes f n inn lp H rows fb cid bid (h + 1) n0 n1 hf.hv hf.hg.hb p1 p2 hm.blk hm.len hi hc.len hK hr1 p hp
      refine ⟨_, _, he, ⟨rows.set n.toNat [.mp (H.length + 1)], ?_, by simpa using hm.len, fun m m0 m1 => ?_⟩, ?_, fun id h1 h2 => ?_, fun b2 r h1 h2 => ?_, fun e he => by rw [List.mem_singleton] at he; subst he; simp; omega⟩
      · rw [List.getElem?_set_self (by simp; omega)]
      · rw [nth_set_rows n0 (by rw [hm.len]; exact n1) m0]
        by_cases hnm : n = m
        · subst hnm
          rw [if_pos rfl]
          refine .inr ⟨H.length + 1, b, rfl, ?_, ?_⟩
          · rw [List.getElem?_set_ne (by omega), app_get]; rfl
          · rw [hbv]
            exact ⟨fun h => ⟨h.1, h.2.1, (hc.vis _ h.1 h.2.1).1 h.2.2⟩, fun h => ⟨h.1, h.2.1, (hc.vis _ h.1 h.2.1).2 h.2.2⟩⟩
        · rw [if_neg hnm]
          rcases hm.row m m0 m1 with ⟨h3, h4⟩ | ⟨id, b, h3, h4, h5⟩
          · refine .inl ⟨h3, ?_⟩
            rintro ⟨h5 | h5, h6⟩
            · exact h4 ⟨h5, h6⟩
            · exact hnm h5.symm
          · refine .inr ⟨id, b, h3, ?_, h5⟩
            have hne : cid ≠ id := fun e => by rw [← e, hm.blk] at h4; cases h4
            rw [List.getElem?_set_ne hne]; exact app_old _ _ h4
      · simp
      · rw [List.getElem?_set_ne (Ne.symm h2), List.getElem?_append_left h1]
      · rw [List.getElem?_set_self (by simp; omega)] at h1
        cases h1
        obtain ⟨m, m0, m1, hr⟩ := brefs_cells.1 h2
        rw [nth_set_rows n0 (by rw [hm.len]; exact n1) m0] at hr
        by_cases hnm : n = m
        · rw [if_pos hnm] at hr
          have : r = H.length + 1 := by simpa [refsL, refs] using hr
          subst this
          exact .inr (by simp)
        · rw [if_neg hnm] at hr
          rw [List.length_set] at m1
          exact .inl ⟨_, hm.blk, brefs_cells.2 ⟨m, m0, m1, hr⟩⟩
    · refine ⟨H, [], es_S1_no f n inn lp H rows fb cid bid (h + 1) n0 n1 hf.hv hf.hg.hb p1 p2 hm.blk hm.len hi hc.len hK, ⟨rows, hm.blk, hm.len, fun m m0 m1 => ?_⟩, Nat.le_refl _, fun _ _ _ => rfl, fun b r h1 h2 => .inl ⟨b, h1, h2⟩, fun e he => by cases he⟩
      rcases hm.row m m0 m1 with ⟨h3, h4⟩ | h3
      · refine .inl ⟨h3, ?_⟩
        rintro ⟨h5 | rfl, h6⟩
        · exact h4 ⟨h5, h6⟩
        · exact hK h6
      · exact .inr h3
  c1 := by omega
  i1 := by omega
  s1 := by omega
  ci := by omega
  cs := by omega
  is := by omega
end Go.Proofs.Try.Av
end
section
attribute [local congr] ite_congr
set_option linter.unusedSimpArgs false
set_option linter.unusedVariables false
set_option maxRecDepth 10000
set_option maxHeartbeats 1000000
namespace Go.Proofs.Try.Av
open Go Go.Av Classical
section
variable (f : Fn) (n : Int) (inn out : List Bool) (lp : Bool) (H : Heap) (fb cid bid iid : Nat) (n0 : 0 ≤ n) (n1 : n < f.Nodes.length) (hv : f.Vars.length ≤ 1048576) (hb : f.Nodes.length ≤ 1048576) (hf : H[fb]? = some (.cells 7 [f.cells])) (hbx : H[bid]? = some (.cells 1 [[.sl cid 0 f.Nodes.length f.Nodes.length]])) (hc : H[cid]? = some (.cells 1 (bl out))) (hr : out.length = f.Nodes.length)
include n0 n1 hv hb hf hbx hc hr
theorem es_S2 : ∃ b : Bool, (b = true ↔ ((nth f.Nodes n).Kind = 9 ∨ (nth f.Nodes n).Kind = 10) ∧ ¬lp = true) ∧ ES A n_impl_CheckUnit_S2 [.int .i64 n, .sl iid 0 f.Vars.length f.Vars.length, .bool lp, .ptr fb 0 0 1, .ptr bid 0 0 1] H = some (.tup [], H.set cid (.cells 1 (bl (out.set n.toNat b))), []) := by
  simp only [Fn.cells, nodes] at hf
  by_cases hK : (nth f.Nodes n).Kind = 9 ∨ (nth f.Nodes n).Kind = 10
  · refine ⟨!lp, by simp [hK], ?_⟩
    rcases hK with hK | hK
    · simp (maxSteps := 10000000) -implicitDefEqProofs +contextual (disch := omega) only [s_impl_CheckUnit_S2, u_impl_CheckUnit_S2, rr_impl_CheckUnit_S2, Fn.cells, Node.cells, strs, ups, nodes, ints, bl, ↓XD, XU, refs, goneIn, Nat.beq, Nat.ble, List.isEmpty, ↓reduceIte, sevalprocAttr, hf, hbx, hc, hr, n0, n1, hK]
      simp [trim_all]
    · simp (maxSteps := 10000000) -implicitDefEqProofs +contextual (disch := omega) only [s_impl_CheckUnit_S2, u_impl_CheckUnit_S2, rr_impl_CheckUnit_S2, Fn.cells, Node.cells, strs, ups, nodes, ints, bl, ↓XD, XU, refs, goneIn, Nat.beq, Nat.ble, List.isEmpty, ↓reduceIte, sevalprocAttr, hf, hbx, hc, hr, n0, n1, hK]
      simp [trim_all]
  · refine ⟨false, by simp [hK], ?_⟩
    have hK := not_or.1 hK
    simp (maxSteps := 10000000) -implicitDefEqProofs +contextual (disch := omega) only [s_impl_CheckUnit_S2, u_impl_CheckUnit_S2, rr_impl_CheckUnit_S2, Fn.cells, Node.cells, strs, ups, nodes, ints, bl, ↓XD, XU, refs, goneIn, Nat.beq, Nat.ble, List.isEmpty, ↓reduceIte, sevalprocAttr, hf, hbx, hc, hr, n0, n1, hK]
    simp [trim_all]
end
end Go.Proofs.Try.Av
end
section
attribute [local congr] ite_congr
set_option linter.unusedSimpArgs false
set_option linter.unusedVariables false
set_option maxRecDepth 10000
set_option maxHeartbeats 1000000
namespace Go.Proofs.Try.Av
open Go Go.Av Classical
def UpBadI (nv nu : Nat) (inn : List Bool) (p : Up) : Prop := if p.Local = true then ((p.Index < 0 ∨ nv ≤ p.Index) ∨ ¬nth inn p.Index = true) else (p.Index < 0 ∨ nu ≤ p.Index)
noncomputable abbrev gUp (nv nu : Nat) (inn : List Bool) (ps : List Up) (n : Int) (j : Int) (a : List Bool) : List Bool := a.set n.toNat (decide (nth a n = true ∨ UpBadI nv nu inn (nth ps j)))
theorem lw_ups (f : Fn) (n : Int) (inn : List Bool) (lp : Bool) (K : List Bool → Heap) (h fb cid bid ub iid xb : Nat) (ps : List Up) (n0 : 0 ≤ n) (n1 : n < f.Nodes.length) (hv : f.Vars.length ≤ 1048576) (hps : ps.length ≤ 1048576) (hl : inn.length = f.Vars.length) (hk : ∀ a, (K a).length = h) (q1 : ∀ a l, (K a ++ l)[fb]? = some (.cells 7 [f.cells])) (q2 : ∀ a l, (K a ++ l)[cid]? = some (.cells 1 (bl a))) (q3 : ∀ a l, (K a ++ l)[bid]? = some (.cells 1 [[.sl cid 0 f.Nodes.length f.Nodes.length]])) (q4 : ∀ a l, (K a ++ l)[iid]? = some (.cells 1 (bl inn))) (q5 : ∀ a a' l, (K a ++ l).set cid (.cells 1 (bl a')) = K a' ++ l) (d1 : fb < h) (d2 : bid < h) (d3 : ub < h) (d4 : iid < h) (d5 : xb < h) (a0 : List Bool) (hok0 : a0.length = f.Nodes.length) : EV A (.loop (B_impl_CheckUnit_S3 0)) (⟨[(0, .int .i64 n), (1, .sl iid 0 f.Vars.length f.Vars.length), (2, .bool lp), (3, .ptr fb 0 0 1), (4, .ptr bid 0 0 1), (5, .ptr ub 0 0 1), (9, .ptr xb 0 0 1), (37, ups ps), (38, .int .i64 ps.length), (39, .int .i64 (0))], [], K a0, []⟩ : St) = some (AExit.exit 0, (⟨[(0, .int .i64 n), (1, .sl iid 0 f.Vars.length f.Vars.length), (2, .bool lp), (3, .ptr fb 0 0 1), (4, .ptr bid 0 0 1), (5, .ptr ub 0 0 1), (9, .ptr xb 0 0 1), (37, ups ps), (38, .int .i64 ps.length), (39, .int .i64 (ps.length))], [], K (iter (fun (i : Int) (a : List Bool) => gUp f.Vars.length f.Ups.length inn ps n i a) ((ps.length : Int) - 0).toNat (0) a0), []⟩ : St)) ∧ (iter (fun (i : Int) (a : List Bool) => gUp f.Vars.length f.Ups.length inn ps n i a) ((ps.length : Int) - 0).toNat (0) a0).length = f.Nodes.length := by
  refine loop_iter (fun i (a : List Bool) => (⟨[(0, .int .i64 n), (1, .sl iid 0 f.Vars.length f.Vars.length), (2, .bool lp), (3, .ptr fb 0 0 1), (4, .ptr bid 0 0 1), (5, .ptr ub 0 0 1), (9, .ptr xb 0 0 1), (37, ups ps), (38, .int .i64 ps.length), (39, .int .i64 i)], [], K a, []⟩ : St)) (fun (i : Int) (a : List Bool) => gUp f.Vars.length f.Ups.length inn ps n i a) (fun i (a : List Bool) => a.length = f.Nodes.length) (fun a => (AExit.exit 0, (⟨[(0, .int .i64 n), (1, .sl iid 0 f.Vars.length f.Vars.length), (2, .bool lp), (3, .ptr fb 0 0 1), (4, .ptr bid 0 0 1), (5, .ptr ub 0 0 1), (9, .ptr xb 0 0 1), (37, ups ps), (38, .int .i64 ps.length), (39, .int .i64 (ps.length))], [], K a, []⟩ : St))) (0) (ps.length) ?_ ?_ (0) a0 (by omega) (by omega) hok0
  · intro i a hi hn hok
    simp only [Fn.cells, ups] at q1; simp only [gUp, UpBadI]
    by_cases hL : (nth ps i).Local = true
    · refine ⟨⟨_, by simp (maxSteps := 10000000) -implicitDefEqProofs +contextual (disch := omega) only [ub_impl_CheckUnit_S3_0, rr_impl_CheckUnit_S3, ↓XD, XU, refs, goneIn, Nat.beq, Nat.ble, List.isEmpty, ↓reduceIte, sevalprocAttr, bl, ups, Up.cells, q1, q2, q3, q4, q5, hl, hL, hn, hok]; rfl, by first | (simp [St.next, trim_all, hk, d1, d2, d3, d4, d5, Bool.or_assoc, hL]; done) | (simp [St.next, trim_all, hk, d1, d2, d3, d4, d5, Bool.or_assoc, hL]; omega) | (simp [St.next, trim, bare, refsL, refs, hk, d1, d2, d3, d4, d5, Bool.or_assoc, hL]; done)⟩, by simpa using hok⟩
    · refine ⟨⟨_, by simp (maxSteps := 10000000) -implicitDefEqProofs +contextual (disch := omega) only [ub_impl_CheckUnit_S3_0, rr_impl_CheckUnit_S3, ↓XD, XU, refs, goneIn, Nat.beq, Nat.ble, List.isEmpty, ↓reduceIte, sevalprocAttr, bl, ups, Up.cells, q1, q2, q3, q4, q5, hl, hL, hn, hok]; rfl, by first | (simp [St.next, trim_all, hk, d1, d2, d3, d4, d5, Bool.or_assoc, hL]; done) | (simp [St.next, trim_all, hk, d1, d2, d3, d4, d5, Bool.or_assoc, hL]; omega) | (simp [St.next, trim, bare, refsL, refs, hk, d1, d2, d3, d4, d5, Bool.or_assoc, hL]; done)⟩, by simpa using hok⟩
  · rintro i a hi rfl hok
    refine ⟨by simp (maxSteps := 10000000) -implicitDefEqProofs +contextual (disch := omega) only [ub_impl_CheckUnit_S3_0, rr_impl_CheckUnit_S3, ↓XD, XU, refs, goneIn, Nat.beq, Nat.ble, List.isEmpty, ↓reduceIte, sevalprocAttr, bl, ups, Up.cells, q1, q2, q3, q4, q5, hl, Int.lt_irrefl, hok], by simp⟩
theorem gUp_iter (nv nu : Nat) (inn : List Bool) (ps : List Up) (n : Int) (n0 : 0 ≤ n) (out : List Bool) (n1 : n < out.length) : iter (fun (j : Int) (a : List Bool) => gUp nv nu inn ps n j a) ((ps.length : Int) - 0).toNat 0 out = out.set n.toNat (decide (nth out n = true ∨ ∃ j : Int, 0 ≤ j ∧ j < ps.length ∧ UpBadI nv nu inn (nth ps j))) := by
  have := iter_inv (g := fun (j : Int) (a : List Bool) => gUp nv nu inn ps n j a) (fun i (b : List Bool) => b = out.set n.toNat (decide (nth out n = true ∨ ∃ j : Int, 0 ≤ j ∧ j < i ∧ UpBadI nv nu inn (nth ps j)))) 0 (ps.length : Int) (by
    rintro i b i0 i1 rfl
    rw [gUp, List.set_set, nth_set n0 n1 n0, if_pos rfl]
    congr 1
    rw [decide_eq_decide, decide_eq_true_eq]
    constructor
    · rintro ((h | ⟨j, j0, j1, h⟩) | h)
      · exact .inl h
      · exact .inr ⟨j, j0, by omega, h⟩
      · exact .inr ⟨i, i0, by omega, h⟩
    · rintro (h | ⟨j, j0, j1, h⟩)
      · exact .inl (.inl h)
      · by_cases hj : j = i
        · subst hj; exact .inr h
        · exact .inl (.inr ⟨j, j0, by omega, h⟩)) (a := out) (by omega) (by
    refine nth_ext (by simp) fun j j0 j1 => ?_
    rw [nth_set n0 n1 j0]
    by_cases hj : n = j
    · subst hj
      rw [if_pos rfl, Bool.eq_iff_iff, decide_eq_true_eq]
      exact ⟨.inl, fun h => h.elim id (fun ⟨j, j0, j1, _⟩ => by omega)⟩
    · rw [if_neg hj])
  exact this
theorem set_nth_same {out : List Bool} {n : Int} (n0 : 0 ≤ n) (n1 : n < out.length) : out.set n.toNat (nth out n) = out := by
  refine nth_ext (by simp) fun j j0 j1 => ?_
  rw [nth_set n0 n1 j0]
  split
  · rename_i h; rw [h]
  · rfl
section
variable (fs : List Fn) (f : Fn) (n : Int) (inn out : List Bool) (lp : Bool) (H : Heap) (fb cid bid ub iid : Nat) (n0 : 0 ≤ n) (n1 : n < f.Nodes.length) (hv : f.Vars.length ≤ 1048576) (hb : f.Nodes.length ≤ 1048576) (hf : H[fb]? = some (.cells 7 [f.cells])) (hbx : H[bid]? = some (.cells 1 [[.sl cid 0 f.Nodes.length f.Nodes.length]])) (hc : H[cid]? = some (.cells 1 (bl out))) (hr : out.length = f.Nodes.length)
include n0 n1 hv hb hf hbx hc hr
theorem es_S3_37 (hK : (nth f.Nodes n).Kind = 37) : ES A n_impl_CheckUnit_S3 [.int .i64 n, .sl iid 0 f.Vars.length f.Vars.length, .bool lp, .ptr fb 0 0 1, .ptr bid 0 0 1, .ptr ub 0 0 1] H = some (.tup [], H.set cid (.cells 1 (bl (out.set n.toNat (!f.Rest)))), []) := by
  have q1 : ∀ l, (H ++ l)[fb]? = some (.cells 7 [f.cells]) := fun l => app_old _ _ hf
  have q2 : ∀ l, (H ++ l)[bid]? = some (.cells 1 [[.sl cid 0 f.Nodes.length f.Nodes.length]]) := fun l => app_old _ _ hbx
  have q3 : ∀ l, (H ++ l)[cid]? = some (.cells 1 (bl out)) := fun l => app_old _ _ hc
  have hcl := some_lt hc
  have q5 : ∀ b l, (H ++ l).set cid b = H.set cid b ++ l := fun b l => List.set_append_left _ _ hcl
  have q6 : ∀ b x l, (H.set cid b ++ x :: l)[H.length]? = some x := fun b x l => by rw [List.getElem?_append_right (by simp)]; simp
  simp only [Fn.cells, nodes] at hf q1
  simp (maxSteps := 10000000) -implicitDefEqProofs +contextual (disch := omega) only [s_impl_CheckUnit_S3, u_impl_CheckUnit_S3, rr_impl_CheckUnit_S3, Fn.cells, Node.cells, strs, ups, nodes, ints, bl, ↓XD, XU, refs, goneIn, Nat.beq, Nat.ble, List.isEmpty, ↓reduceIte, sevalprocAttr, hf, hbx, hc, hr, n0, n1, hK, q1, q2, q3, q5, q6]
  simp [trim, bare, refsL, refs]
theorem es_S3_no (hK : ¬(nth f.Nodes n).Kind = 37) (hK2 : ¬(nth f.Nodes n).Kind = 36) : ES A n_impl_CheckUnit_S3 [.int .i64 n, .sl iid 0 f.Vars.length f.Vars.length, .bool lp, .ptr fb 0 0 1, .ptr bid 0 0 1, .ptr ub 0 0 1] H = some (.tup [], H, []) := by
  simp only [Fn.cells, nodes] at hf
  simp (maxSteps := 10000000) -implicitDefEqProofs +contextual (disch := omega) only [s_impl_CheckUnit_S3, u_impl_CheckUnit_S3, rr_impl_CheckUnit_S3, Fn.cells, Node.cells, strs, ups, nodes, ints, bl, ↓XD, XU, refs, goneIn, Nat.beq, Nat.ble, List.isEmpty, ↓reduceIte, sevalprocAttr, hf, hbx, hc, hr, n0, n1, hK, hK2]
  simp [trim, bare, refsL, refs]
theorem es_S3_36 (hK : (nth f.Nodes n).Kind = 36) (hk1 : (nth f.Nodes n).Refs.length = 1) (g0 : 0 ≤ nth (nth f.Nodes n).Refs 0) (g1 : nth (nth f.Nodes n).Refs 0 < fs.length) (hu : (nth fs (nth (nth f.Nodes n).Refs 0)).Ups.length ≤ 1048576) (hub : H[ub]? = some (.cells 1 [[fns fs]])) (hi : H[iid]? = some (.cells 1 (bl inn))) (hl : inn.length = f.Vars.length) (c1 : cid ≠ fb) (c2 : cid ≠ bid) (c3 : cid ≠ iid) (c4 : cid ≠ ub) : ES A n_impl_CheckUnit_S3 [.int .i64 n, .sl iid 0 f.Vars.length f.Vars.length, .bool lp, .ptr fb 0 0 1, .ptr bid 0 0 1, .ptr ub 0 0 1] H = some (.tup [], H.set cid (.cells 1 (bl (out.set n.toNat (decide (nth out n = true ∨ ∃ j : Int, 0 ≤ j ∧ j < (nth fs (nth (nth f.Nodes n).Refs 0)).Ups.length ∧ UpBadI f.Vars.length f.Ups.length inn (nth (nth fs (nth (nth f.Nodes n).Refs 0)).Ups j)))))), []) := by
  have hcl := some_lt hc
  have hlp := (lw_ups f n inn lp (fun a => (H ++ [Blk.cells 8 [(nth f.Nodes n).cells]]).set cid (.cells 1 (bl a))) (H.length + 1) fb cid bid ub iid H.length (nth fs (nth (nth f.Nodes n).Refs 0)).Ups n0 n1 hv hu hl (fun a => by simp) (fun a l => app_old _ _ (by rw [List.getElem?_set_ne c1]; exact app_old _ _ hf)) (fun a l => app_old _ _ (by rw [List.getElem?_set_self (by simp; omega)])) (fun a l => app_old _ _ (by rw [List.getElem?_set_ne c2]; exact app_old _ _ hbx)) (fun a l => app_old _ _ (by rw [List.getElem?_set_ne c3]; exact app_old _ _ hi)) (fun a a' l => by rw [List.set_append_left _ _ (by simp; omega), List.set_set]) (by have := some_lt hf; omega) (by have := some_lt hbx; omega) (by have := some_lt hub; omega) (by have := some_lt hi; omega) (by omega) out hr).1
  rw [gUp_iter _ _ _ _ _ n0 _ (by omega)] at hlp
  rw [set_same (app_old _ _ hc)] at hlp
  have q1 : ∀ l, (H ++ l)[fb]? = some (.cells 7 [f.cells]) := fun l => app_old _ _ hf
  have q2 : ∀ l, (H ++ l)[ub]? = some (.cells 1 [[fns fs]]) := fun l => app_old _ _ hub
  simp only [Fn.cells, nodes, fns, ups] at hf q1 q2
  simp only [bl, ups, Node.cells, ints, hK] at hlp
  simp (maxSteps := 10000000) -implicitDefEqProofs +contextual (disch := omega) only [s_impl_CheckUnit_S3, u_impl_CheckUnit_S3, rr_impl_CheckUnit_S3, unit, fns, Fn.cells, Node.cells, strs, ups, nodes, ints, bl, ↓XD, XU, refs, goneIn, Nat.beq, Nat.ble, List.isEmpty, ↓reduceIte, sevalprocAttr, hf, hbx, hc, hr, n0, n1, hK, q1, q2, hlp, hk1, g0, g1]
  simp [trim, bare, refsL, List.set_append_left _ _ hcl]
end
end Go.Proofs.Try.Av
end
section
set_option linter.unusedSimpArgs false
set_option linter.unusedVariables false
set_option maxRecDepth 10000
set_option maxHeartbeats 1000000
namespace Go.Proofs.Try.Av
open Go Go.Av Classical
theorem brefs_bl (s : Nat) (l : List Bool) (r : Nat) : ¬r ∈ brefs (.cells s (bl l)) := by
  show ¬r ∈ (bl l).flatMap refsL
  rw [List.mem_flatMap]
  rintro ⟨x, hx, hr⟩
  simp only [bl, List.mem_map] at hx
  obtain ⟨b, _, rfl⟩ := hx
  simp [refsL, refs] at hr
structure Marks (f : Fn) (cid : Nat) (B : Int → Prop) (V : Int → Prop) (H : Heap) (out : List Bool) : Prop where
  blk : H[cid]? = some (.cells 1 (bl out))
  len : out.length = f.Nodes.length
  row : ∀ m : Int, 0 ≤ m → m < f.Nodes.length → (nth out m = true ↔ V m ∧ B m)
def SeeM (f : Fn) (h cid g : Nat) (caps : List PV) (B : Int → Prop) (P : Heap → Prop) (d2 : cid < h) (hP : ∀ H H' : Heap, P H → (∀ id, id < h → id ≠ cid → H'[id]? = H[id]?) → P H')
    (hs : ∀ (n : Int) lp inn (out : List Bool) H, 0 ≤ n → n < f.Nodes.length → Ctx f n lp inn → h + 3 ≤ H.length → P H → H[h + 1]? = some (.cells 1 (bl inn)) → H[cid]? = some (.cells 1 (bl out)) → out.length = f.Nodes.length → (nth out n = true → B n) →
      ∃ b : Bool, (b = true ↔ B n) ∧ ES A g (.int .i64 n :: .sl (h + 1) 0 f.Vars.length f.Vars.length :: .bool lp :: caps) H = some (.tup [], H.set cid (.cells 1 (bl (out.set n.toNat b))), [])) :
    See f (h + 2) (h + 1) cid (h + 3) g caps where
  Acc V H := ∃ out, Marks f cid B V H out
  Pre := P
  stable := fun V H H' ⟨out, hm⟩ h1 h2 => ⟨out, by rw [h1, hm.blk], hm.len, hm.row⟩
  maps := fun V H ⟨out, hm⟩ b r hb hr => by
    rw [hm.blk] at hb; cases hb
    exact absurd hr (brefs_bl _ _ _)
  pre := fun H H' h1 h3 => hP H H' h1 fun id h4 h5 => h3 id (by omega) h5 (by omega)
  see := fun n lp inn V H n0 n1 hc hb hp hi ⟨out, hm⟩ => by
    obtain ⟨b, hbv, he⟩ := hs n lp inn out H n0 n1 hc hb hp hi hm.blk hm.len (fun h => ((hm.row n n0 n1).1 h).2)
    refine ⟨_, _, he, ⟨out.set n.toNat b, List.getElem?_set_self (by omega), by simpa using hm.len, fun m m0 m1 => ?_⟩, by simp, fun id h1 h2 => List.getElem?_set_ne (Ne.symm h2), fun b2 r h1 h2 => ?_, fun e he => by cases he⟩
    · rw [nth_set n0 (by rw [hm.len]; exact n1) m0]
      by_cases hnm : n = m
      · subst hnm
        rw [if_pos rfl, hbv]
        exact ⟨fun h => ⟨.inr rfl, h⟩, fun h => h.2⟩
      · rw [if_neg hnm, hm.row m m0 m1]
        exact ⟨fun h => ⟨.inl h.1, h.2⟩, fun h => ⟨h.1.resolve_right (fun e => hnm e.symm), h.2⟩⟩
    · rw [List.getElem?_set_self (by omega)] at h1; cases h1
      exact absurd h2 (brefs_bl _ _ _)
  c1 := by omega
  i1 := by omega
  s1 := by omega
  ci := by omega
  cs := by omega
  is := by omega
def See2 (f : Fn) (hf : FnT f) (h fb cid bid : Nat) (d1 : fb < h) (d2 : cid < h) (d3 : bid < h) (c1 : fb ≠ cid) (c2 : bid ≠ cid) : See f (h + 2) (h + 1) cid (h + 3) n_impl_CheckUnit_S2 [.ptr fb 0 0 1, .ptr bid 0 0 1] :=
  SeeM f h cid n_impl_CheckUnit_S2 [.ptr fb 0 0 1, .ptr bid 0 0 1] (fun n => bad7 f.Nodes (growP f.Nodes) n) (fun H => H[fb]? = some (.cells 7 [f.cells]) ∧ H[bid]? = some (.cells 1 [[.sl cid 0 f.Nodes.length f.Nodes.length]])) d2
    (fun H H' ⟨h1, h2⟩ h3 => ⟨by rw [h3 fb (by omega) c1, h1], by rw [h3 bid (by omega) c2, h2]⟩)
    (fun n lp inn out H n0 n1 hc hb ⟨p1, p2⟩ hi hbl hl hB => by
      obtain ⟨b, hb1, hb2⟩ := es_S2 f n out lp H fb cid bid (h + 1) n0 n1 hf.hv hf.hg.hb p1 p2 hbl hl
      refine ⟨b, ?_, hb2⟩
      rw [hb1, hc.loop])
def Bad8 (fs : List Fn) (fi n : Int) : Prop := ((nth (nth fs fi).Nodes n).Kind = 37 ∧ ¬(nth fs fi).Rest = true) ∨ ((nth (nth fs fi).Nodes n).Kind = 36 ∧ ¬UpsOk fs fi (growP (nth fs fi).Nodes) n (nth (nth (nth fs fi).Nodes n).Refs 0))
def See3 (fs : List Fn) (fi : Int) (hf : FnT (nth fs fi)) (hu : ∀ k : Int, 0 ≤ k → k < fs.length → (nth fs k).Ups.length ≤ 1048576) (hg : ∀ n : Int, 0 ≤ n → n < (nth fs fi).Nodes.length → (nth (nth fs fi).Nodes n).Kind = 36 → 0 ≤ nth (nth (nth fs fi).Nodes n).Refs 0 ∧ nth (nth (nth fs fi).Nodes n).Refs 0 < fs.length) (h fb cid bid ub : Nat) (d1 : fb < h) (d2 : cid < h) (d3 : bid < h) (d4 : ub < h) (c1 : fb ≠ cid) (c2 : bid ≠ cid) (c3 : ub ≠ cid) : See (nth fs fi) (h + 2) (h + 1) cid (h + 3) n_impl_CheckUnit_S3 [.ptr fb 0 0 1, .ptr bid 0 0 1, .ptr ub 0 0 1] :=
  SeeM (nth fs fi) h cid n_impl_CheckUnit_S3 [.ptr fb 0 0 1, .ptr bid 0 0 1, .ptr ub 0 0 1] (Bad8 fs fi) (fun H => H[fb]? = some (.cells 7 [(nth fs fi).cells]) ∧ H[bid]? = some (.cells 1 [[.sl cid 0 (nth fs fi).Nodes.length (nth fs fi).Nodes.length]]) ∧ H[ub]? = some (.cells 1 [[fns fs]])) d2
    (fun H H' ⟨h1, h2, h4⟩ h3 => ⟨by rw [h3 fb (by omega) c1, h1], by rw [h3 bid (by omega) c2, h2], by rw [h3 ub (by omega) c3, h4]⟩)
    (fun n lp inn out H n0 n1 hc hb ⟨p1, p2, p3⟩ hi hbl hl hB => by
      by_cases k1 : (nth (nth fs fi).Nodes n).Kind = 37
      · exact ⟨_, by simp [Bad8, k1], es_S3_37 (nth fs fi) n out lp H fb cid bid ub (h + 1) n0 n1 hf.hv hf.hg.hb p1 p2 hbl hl k1⟩
      · by_cases k2 : (nth (nth fs fi).Nodes n).Kind = 36
        · have g := hg n n0 n1 k2
          refine ⟨_, ?_, es_S3_36 fs (nth fs fi) n inn out lp H fb cid bid ub (h + 1) n0 n1 hf.hv hf.hg.hb p1 p2 hbl hl k2 (hf.hr n n0 n1 (.inr (.inr k2))) g.1 g.2 (hu _ g.1 g.2) p3 hi hc.len (Ne.symm c1) (Ne.symm c2) (by omega) (Ne.symm c3)⟩
          have hub : ∀ p : Up, UpBadI (nth fs fi).Vars.length (nth fs fi).Ups.length inn p ↔ (if p.Local = true then ((p.Index < 0 ∨ (nth fs fi).Vars.length ≤ p.Index) ∨ ¬Visible (nth fs fi) (growP (nth fs fi).Nodes) n p.Index) else (p.Index < 0 ∨ (nth fs fi).Ups.length ≤ p.Index)) := fun p => by
            rw [UpBadI]
            by_cases hL : p.Local = true
            · rw [if_pos hL, if_pos hL]
              by_cases hr : p.Index < 0 ∨ (nth fs fi).Vars.length ≤ p.Index
              · simp [hr]
              · rw [hc.vis p.Index (by omega) (by omega)]
            · rw [if_neg hL, if_neg hL]
          have hx : (∃ j : Int, 0 ≤ j ∧ j < (nth fs (nth (nth (nth fs fi).Nodes n).Refs 0)).Ups.length ∧ UpBadI (nth fs fi).Vars.length (nth fs fi).Ups.length inn (nth (nth fs (nth (nth (nth fs fi).Nodes n).Refs 0)).Ups j)) ↔ Bad8 fs fi n := by
            rw [Bad8, UpsOk]
            constructor
            · rintro ⟨j, j0, j1, h⟩
              exact .inr ⟨k2, fun hh => hh j j0 j1 ((hub _).1 h)⟩
            · rintro (h | ⟨_, h⟩)
              · omega
              · refine Classical.byContradiction fun hh => h fun j j0 j1 hj => hh ⟨j, j0, j1, (hub _).2 hj⟩
          rw [decide_eq_true_eq, hx]
          exact ⟨fun h => h.elim hB id, .inr⟩
        · refine ⟨nth out n, ⟨hB, fun h => ?_⟩, ?_⟩
          · rcases h with h | h
            · exact absurd h.1 k1
            · exact absurd h.1 k2
          · rw [set_nth_same n0 (by rw [hl]; exact n1), set_same hbl]
            exact es_S3_no (nth fs fi) n out lp H fb cid bid ub (h + 1) n0 n1 hf.hv hf.hg.hb p1 p2 hbl hl k1 k2)
end Go.Proofs.Try.Av
end
section
attribute [local congr] ite_congr
set_option linter.unusedSimpArgs false
set_option linter.unusedVariables false
set_option maxRecDepth 10000
set_option maxHeartbeats 1000000
namespace Go.Proofs.Try.Av
open Go Go.Av Classical
theorem trim_id {H : Heap} {ed : Edges} (h : ∀ e ∈ ed, e.2 < H.length) (roots : List PV) : trim H.length roots H ed = (H, ed) := by
  rcases trim_cases H.length roots H ed with e | ⟨e, _⟩
  · exact e
  · rw [e, List.take_of_length_le (Nat.le_refl _), List.filter_eq_self.2 (fun e he => by simpa using h e he)]
theorem trim_cut {H : Heap} {ed : Edges} {k c : Nat} (hc : k ≤ c) (h : ∀ e ∈ ed, (e.1 = c ∧ c < e.2)) (roots : List PV) (hr : bare k (refsL roots) = true) : trim k roots H ed = (H.take k, []) := by
  have h1 : (ed.all fun e => decide (k ≤ e.1) || decide (e.2 < k)) = true := by
    rw [List.all_eq_true]
    intro e he
    have := h e he
    simp; omega
  have h2 : (ed.filter fun e => decide (e.2 < k)) = [] := by
    rw [List.filter_eq_nil_iff]
    intro e he
    have := h e he
    simp; omega
  rw [trim, hr, h1]
  simp only [Bool.and_self, h2]
theorem li_17 (fs : List Fn) (f : Fn) (t fi : Int) (H : Heap) (ed : Edges) (out : List Bool) (hb : f.Nodes.length ≤ 1048576) (hl : out.length = f.Nodes.length) (q1 : H[4]? = some (.cells 1 [[.sl 3 0 f.Nodes.length f.Nodes.length]])) (q2 : H[3]? = some (.cells 1 (bl out))) (q3 : H[1]? = some (.cells 3 [[.int .i64 0, .int .i64 0, .int .i64 0]])) (hT : ∀ roots, trim H.length roots H ed = (H, ed)) : match seek (fun (j : Int) => nth out j = true) 0 f.Nodes.length with | some j => ∃ st, EV A (.loop (B_impl_CheckUnit 17)) (⟨[(0, unit fs), (1, .ptr 0 0 0 1), (2, .ptr 1 0 0 1), (3, .int .i64 t), (49, fns fs), (50, .int .i64 fs.length), (51, .int .i64 fs.length), (78, .int .i64 fs.length), (79, .int .i64 fs.length), (90, fns fs), (91, .int .i64 fs.length), (92, .int .i64 fs.length), (113, fns fs), (114, .int .i64 fs.length), (115, .int .i64 fs.length), (186, fns fs), (187, .int .i64 fs.length), (188, .int .i64 fs.length), (242, fns fs), (243, .int .i64 fs.length), (244, .int .i64 fs.length), (362, fns fs), (363, .int .i64 fs.length), (364, .int .i64 fi), (37, .ptr 2 0 0 1), (36, .int .i64 fi), (38, .ptr 4 0 0 1), (377, .int .i64 f.Nodes.length), (378, .int .i64 (0))], [], H, ed⟩ : St) = some (.ret, st) ∧ ResAt 2 1 3 (flt3 7 fi j) st | none => EV A (.loop (B_impl_CheckUnit 17)) (⟨[(0, unit fs), (1, .ptr 0 0 0 1), (2, .ptr 1 0 0 1), (3, .int .i64 t), (49, fns fs), (50, .int .i64 fs.length), (51, .int .i64 fs.length), (78, .int .i64 fs.length), (79, .int .i64 fs.length), (90, fns fs), (91, .int .i64 fs.length), (92, .int .i64 fs.length), (113, fns fs), (114, .int .i64 fs.length), (115, .int .i64 fs.length), (186, fns fs), (187, .int .i64 fs.length), (188, .int .i64 fs.length), (242, fns fs), (243, .int .i64 fs.length), (244, .int .i64 fs.length), (362, fns fs), (363, .int .i64 fs.length), (364, .int .i64 fi), (37, .ptr 2 0 0 1), (36, .int .i64 fi), (38, .ptr 4 0 0 1), (377, .int .i64 f.Nodes.length), (378, .int .i64 (0))], [], H, ed⟩ : St) = some (AExit.exit 35, (⟨[(0, unit fs), (1, .ptr 0 0 0 1), (2, .ptr 1 0 0 1), (3, .int .i64 t), (49, fns fs), (50, .int .i64 fs.length), (51, .int .i64 fs.length), (78, .int .i64 fs.length), (79, .int .i64 fs.length), (90, fns fs), (91, .int .i64 fs.length), (92, .int .i64 fs.length), (113, fns fs), (114, .int .i64 fs.length), (115, .int .i64 fs.length), (186, fns fs), (187, .int .i64 fs.length), (188, .int .i64 fs.length), (242, fns fs), (243, .int .i64 fs.length), (244, .int .i64 fs.length), (362, fns fs), (363, .int .i64 fs.length), (364, .int .i64 fi), (37, .ptr 2 0 0 1), (36, .int .i64 fi), (38, .ptr 4 0 0 1), (377, .int .i64 f.Nodes.length), (378, .int .i64 (f.Nodes.length))], [], H, ed⟩ : St)) := by
  refine loop_seek (fun i => (⟨[(0, unit fs), (1, .ptr 0 0 0 1), (2, .ptr 1 0 0 1), (3, .int .i64 t), (49, fns fs), (50, .int .i64 fs.length), (51, .int .i64 fs.length), (78, .int .i64 fs.length), (79, .int .i64 fs.length), (90, fns fs), (91, .int .i64 fs.length), (92, .int .i64 fs.length), (113, fns fs), (114, .int .i64 fs.length), (115, .int .i64 fs.length), (186, fns fs), (187, .int .i64 fs.length), (188, .int .i64 fs.length), (242, fns fs), (243, .int .i64 fs.length), (244, .int .i64 fs.length), (362, fns fs), (363, .int .i64 fs.length), (364, .int .i64 fi), (37, .ptr 2 0 0 1), (36, .int .i64 fi), (38, .ptr 4 0 0 1), (377, .int .i64 f.Nodes.length), (378, .int .i64 i)], [], H, ed⟩ : St)) (fun (j : Int) => nth out j = true) (fun (j : Int) (st : St) => ResAt 2 1 3 (flt3 7 fi j) st) (AExit.exit 35, (⟨[(0, unit fs), (1, .ptr 0 0 0 1), (2, .ptr 1 0 0 1), (3, .int .i64 t), (49, fns fs), (50, .int .i64 fs.length), (51, .int .i64 fs.length), (78, .int .i64 fs.length), (79, .int .i64 fs.length), (90, fns fs), (91, .int .i64 fs.length), (92, .int .i64 fs.length), (113, fns fs), (114, .int .i64 fs.length), (115, .int .i64 fs.length), (186, fns fs), (187, .int .i64 fs.length), (188, .int .i64 fs.length), (242, fns fs), (243, .int .i64 fs.length), (244, .int .i64 fs.length), (362, fns fs), (363, .int .i64 fs.length), (364, .int .i64 fi), (37, .ptr 2 0 0 1), (36, .int .i64 fi), (38, .ptr 4 0 0 1), (377, .int .i64 f.Nodes.length), (378, .int .i64 (f.Nodes.length))], [], H, ed⟩ : St)) (0) (f.Nodes.length) ?_ ?_ ?_ (0) (by omega) (by omega)
  · intro i hi hn hp
    try simp only [Classical.not_not] at hp
    refine ⟨_, by simp (maxSteps := 10000000) -implicitDefEqProofs +contextual (disch := omega) only [ub_impl_CheckUnit_17, rr_impl_CheckUnit, ↓XD, XU, refs, goneIn, Nat.beq, Nat.ble, List.isEmpty, ↓reduceIte, sevalprocAttr, bl, q1, q2, q3, hl, hn, hp]; rfl, by first | (simp [St.next, trim_all, hT]; done) | (simp [St.next, trim_all, hT]; omega) | (simp [St.next, trim, bare, refsL, refs, hT]; done)⟩
  · intro i hi hn hp
    refine ⟨_, by simp (maxSteps := 10000000) -implicitDefEqProofs +contextual (disch := omega) only [ub_impl_CheckUnit_17, rr_impl_CheckUnit, ↓XD, XU, refs, goneIn, Nat.beq, Nat.ble, List.isEmpty, ↓reduceIte, sevalprocAttr, bl, q1, q2, q3, hl, hn, hp]; rfl, by simp [ResAt, Env.get, Env.put, List.getElem?_set_self (some_lt q3)]⟩
  · rintro i hi rfl
    refine ⟨by simp (maxSteps := 10000000) -implicitDefEqProofs +contextual (disch := omega) only [ub_impl_CheckUnit_17, rr_impl_CheckUnit, ↓XD, XU, refs, goneIn, Nat.beq, Nat.ble, List.isEmpty, ↓reduceIte, sevalprocAttr, bl, q1, q2, q3, hl, Int.lt_irrefl], by simp⟩
end Go.Proofs.Try.Av
end
section
attribute [local congr] ite_congr
set_option linter.unusedSimpArgs false
set_option linter.unusedVariables false
set_option maxRecDepth 10000
set_option maxHeartbeats 1000000
namespace Go.Proofs.Try.Av
open Go Go.Av Classical
theorem trim_app {n : Nat} {roots : List PV} {H l : Heap} {ed : Edges} (hb : bare n (refsL roots) = true) (hn : H.length = n) (he : ∀ e ∈ ed, e.2 < n) : trim n roots (H ++ l) ed = (H, ed) := by
  subst hn
  have h1 : (ed.all fun e => decide (H.length ≤ e.1) || decide (e.2 < H.length)) = true := by
    rw [List.all_eq_true]; intro e h; simp [he e h]
  have h2 : (ed.filter fun e => decide (e.2 < H.length)) = ed := List.filter_eq_self.2 (fun e h => by simpa using he e h)
  rw [trim, hb, h1]
  simp only [Bool.and_self, h2, List.take_left]
theorem next_app {st0 : St} {per : Env} {H l : Heap} {ed : Edges} (hn : H.length = st0.H.length) (he : ∀ e ∈ ed, e.2 < H.length) (hb : bare H.length (refsL ((per.take st0.per.length).map (·.2))) = true) : st0.next ⟨per, [], H ++ l, ed⟩ = ⟨per.take st0.per.length, [], H, ed⟩ := by
  simp only [St.next]
  rw [trim_app (by rw [← hn]; exact hb) hn (fun e h => by rw [← hn]; exact he e h)]
theorem next_cut {st0 : St} {per : Env} {H : Heap} {ed : Edges} {c : Nat} (hc : st0.H.length ≤ c) (h : ∀ e ∈ ed, e.1 = c ∧ c < e.2) (hb : bare st0.H.length (refsL ((per.take st0.per.length).map (·.2))) = true) : st0.next ⟨per, [], H, ed⟩ = ⟨per.take st0.per.length, [], H.take st0.H.length, []⟩ := by
  simp only [St.next]
  rw [trim_cut hc h _ hb]
theorem take_two {H : Heap} {a b : Blk} (h0 : H[0]? = some a) (h1 : H[1]? = some b) : H.take 2 = [a, b] := by
  match H with
  | [] => cases h0
  | [x] => cases h1
  | x :: y :: H => cases h0; cases h1; rfl
theorem nth_falses (n : Nat) (j : Int) : nth (List.replicate n false) j = false := by
  simp only [nth, List.getD, List.getElem?_replicate]; split <;> rfl
abbrev h5 (b0 b1 : Blk) (f : Fn) (rows : List (List PV)) : Heap := [b0, b1, .cells 7 [f.cells], .cells 1 rows, .cells 1 [[.sl 3 0 f.Nodes.length f.Nodes.length]]]
theorem scopes2 (b0 b1 : Blk) (f : Fn) (hf : FnT f) : ∃ H' ed' out, ES A n_impl_scopes [.agg f.cells, .fn n_impl_CheckUnit_S2 [.ptr 2 0 0 1, .ptr 4 0 0 1]] (h5 b0 b1 f (bl (List.replicate f.Nodes.length false))) = some (.tup [], H', ed') ∧ H'[0]? = some b0 ∧ H'[1]? = some b1 ∧ H'[2]? = some (.cells 7 [f.cells]) ∧ H'[4]? = some (.cells 1 [[.sl 3 0 f.Nodes.length f.Nodes.length]]) ∧ H'[3]? = some (.cells 1 (bl out)) ∧ out.length = f.Nodes.length ∧ (∀ m : Int, 0 ≤ m → m < f.Nodes.length → (nth out m = true ↔ bad7 f.Nodes (growP f.Nodes) m)) ∧ 5 ≤ H'.length ∧ ∀ e ∈ ed', (e.1 = 3 ∧ 3 < e.2) ∧ e.2 < H'.length := by
  obtain ⟨H', ed', h1, ⟨out, hm⟩, h2, h3, h4⟩ := es_scopes hf (h5 b0 b1 f (bl (List.replicate f.Nodes.length false))) (cid := 3) (by simp [h5]) (See2 f hf 5 2 3 4 (by decide) (by decide) (by decide) (by decide) (by decide)) ⟨rfl, rfl⟩ ⟨List.replicate f.Nodes.length false, ⟨rfl, by simp, fun m _ _ => by rw [nth_falses]; simp⟩⟩
  exact ⟨H', ed', out, h1, h2 0 (by simp [h5]) (by decide), h2 1 (by simp [h5]) (by decide), h2 2 (by simp [h5]) (by decide), h2 4 (by simp [h5]) (by decide), hm.blk, hm.len, fun m m0 m1 => by rw [hm.row m m0 m1]; exact ⟨fun h => h.2, fun h => ⟨⟨m0, m1⟩, h⟩⟩, h3, h4⟩
theorem li_16 (fs : List Fn) (t : Int) (hb : fs.length ≤ 1048576) (hF : ∀ f : Int, 0 ≤ f → f < fs.length → FnT (nth fs f)) : match seek (fun (j : Int) => badLoop fs j ≠ none) 0 fs.length with | some j => ∃ st, EV A (.loop (B_impl_CheckUnit 16)) (⟨[(0, unit fs), (1, .ptr 0 0 0 1), (2, .ptr 1 0 0 1), (3, .int .i64 t), (49, fns fs), (50, .int .i64 fs.length), (51, .int .i64 fs.length), (78, .int .i64 fs.length), (79, .int .i64 fs.length), (90, fns fs), (91, .int .i64 fs.length), (92, .int .i64 fs.length), (113, fns fs), (114, .int .i64 fs.length), (115, .int .i64 fs.length), (186, fns fs), (187, .int .i64 fs.length), (188, .int .i64 fs.length), (242, fns fs), (243, .int .i64 fs.length), (244, .int .i64 fs.length), (362, fns fs), (363, .int .i64 fs.length), (364, .int .i64 (0))], [], hU fs, []⟩ : St) = some (.ret, st) ∧ ResAt 2 1 3 (flt3 7 j ((badLoop fs j).getD 0)) st | none => EV A (.loop (B_impl_CheckUnit 16)) (⟨[(0, unit fs), (1, .ptr 0 0 0 1), (2, .ptr 1 0 0 1), (3, .int .i64 t), (49, fns fs), (50, .int .i64 fs.length), (51, .int .i64 fs.length), (78, .int .i64 fs.length), (79, .int .i64 fs.length), (90, fns fs), (91, .int .i64 fs.length), (92, .int .i64 fs.length), (113, fns fs), (114, .int .i64 fs.length), (115, .int .i64 fs.length), (186, fns fs), (187, .int .i64 fs.length), (188, .int .i64 fs.length), (242, fns fs), (243, .int .i64 fs.length), (244, .int .i64 fs.length), (362, fns fs), (363, .int .i64 fs.length), (364, .int .i64 (0))], [], hU fs, []⟩ : St) = some (AExit.exit 33, (⟨[(0, unit fs), (1, .ptr 0 0 0 1), (2, .ptr 1 0 0 1), (3, .int .i64 t), (49, fns fs), (50, .int .i64 fs.length), (51, .int .i64 fs.length), (78, .int .i64 fs.length), (79, .int .i64 fs.length), (90, fns fs), (91, .int .i64 fs.length), (92, .int .i64 fs.length), (113, fns fs), (114, .int .i64 fs.length), (115, .int .i64 fs.length), (186, fns fs), (187, .int .i64 fs.length), (188, .int .i64 fs.length), (242, fns fs), (243, .int .i64 fs.length), (244, .int .i64 fs.length), (362, fns fs), (363, .int .i64 fs.length), (364, .int .i64 (fs.length))], [], hU fs, []⟩ : St)) := by
  refine loop_seek (fun i => (⟨[(0, unit fs), (1, .ptr 0 0 0 1), (2, .ptr 1 0 0 1), (3, .int .i64 t), (49, fns fs), (50, .int .i64 fs.length), (51, .int .i64 fs.length), (78, .int .i64 fs.length), (79, .int .i64 fs.length), (90, fns fs), (91, .int .i64 fs.length), (92, .int .i64 fs.length), (113, fns fs), (114, .int .i64 fs.length), (115, .int .i64 fs.length), (186, fns fs), (187, .int .i64 fs.length), (188, .int .i64 fs.length), (242, fns fs), (243, .int .i64 fs.length), (244, .int .i64 fs.length), (362, fns fs), (363, .int .i64 fs.length), (364, .int .i64 i)], [], hU fs, []⟩ : St)) (fun (j : Int) => badLoop fs j ≠ none) (fun (j : Int) (st : St) => ResAt 2 1 3 (flt3 7 j ((badLoop fs j).getD 0)) st) (AExit.exit 33, (⟨[(0, unit fs), (1, .ptr 0 0 0 1), (2, .ptr 1 0 0 1), (3, .int .i64 t), (49, fns fs), (50, .int .i64 fs.length), (51, .int .i64 fs.length), (78, .int .i64 fs.length), (79, .int .i64 fs.length), (90, fns fs), (91, .int .i64 fs.length), (92, .int .i64 fs.length), (113, fns fs), (114, .int .i64 fs.length), (115, .int .i64 fs.length), (186, fns fs), (187, .int .i64 fs.length), (188, .int .i64 fs.length), (242, fns fs), (243, .int .i64 fs.length), (244, .int .i64 fs.length), (362, fns fs), (363, .int .i64 fs.length), (364, .int .i64 (fs.length))], [], hU fs, []⟩ : St)) (0) (fs.length) ?_ ?_ ?_ (0) (by omega) (by omega)
  · intro i hi hn hp
    have hf := hF i hi hn; have hg1 := hf.hg.hb; obtain ⟨H', ed', out, he, q0, q1, q2, q4, q3, hl, ho, hlen, hed⟩ := scopes2 (.cells 1 [[fns fs]]) (.cells 3 [[.int .i64 0, .int .i64 0, .int .i64 0]]) (nth fs i) hf; have hl7 := li_17 fs (nth fs i) t i H' ed' out hg1 hl q4 q3 q1 (fun roots => trim_id (fun e h => (hed e h).2) roots); have hsk : badLoop fs i = seek (fun j => nth out j = true) 0 (nth fs i).Nodes.length := (seek_congr fun m m0 m1 => (ho m m0 m1).symm); rw [← hsk] at hl7; simp only [h5, bl, fns, Fn.cells, nodes, strs, ups] at he q2 q4; simp only [bl] at q3
    have hp' : badLoop fs i = none := by simpa using hp
    rw [hp'] at hl7
    simp only [unit, fns] at hl7
    refine ⟨_, by (simp (maxSteps := 10000000) -implicitDefEqProofs +contextual (disch := omega) only [ub_impl_CheckUnit_16, rr_impl_CheckUnit, hU, unit, fns, Fn.cells, nodes, strs, ups, bl, ↓XD, XU, refs, goneIn, Nat.beq, Nat.ble, List.isEmpty, ↓reduceIte, sevalprocAttr, hn, he, q2, q3, q4, hl, hl7]) <;> rfl, ?_⟩
    refine (next_cut (c := 3) ?_ (fun e h => (hed e h).1) ?_).trans ?_
    · exact (show (2 : Nat) ≤ 3 by decide)
    · simp [bare, refsL, refs]
    · show (⟨_, [], List.take 2 H', []⟩ : St) = _
      rw [take_two q0 q1]; rfl
  · intro i hi hn hp
    have hf := hF i hi hn; have hg1 := hf.hg.hb; obtain ⟨H', ed', out, he, q0, q1, q2, q4, q3, hl, ho, hlen, hed⟩ := scopes2 (.cells 1 [[fns fs]]) (.cells 3 [[.int .i64 0, .int .i64 0, .int .i64 0]]) (nth fs i) hf; have hl7 := li_17 fs (nth fs i) t i H' ed' out hg1 hl q4 q3 q1 (fun roots => trim_id (fun e h => (hed e h).2) roots); have hsk : badLoop fs i = seek (fun j => nth out j = true) 0 (nth fs i).Nodes.length := (seek_congr fun m m0 m1 => (ho m m0 m1).symm); rw [← hsk] at hl7; simp only [h5, bl, fns, Fn.cells, nodes, strs, ups] at he q2 q4; simp only [bl] at q3
    obtain ⟨k, hk⟩ := Option.ne_none_iff_exists'.1 hp
    rw [hk] at hl7
    obtain ⟨st, hl7, hg⟩ := hl7
    simp only [unit, fns] at hl7
    refine ⟨_, by (simp (maxSteps := 10000000) -implicitDefEqProofs +contextual (disch := omega) only [ub_impl_CheckUnit_16, rr_impl_CheckUnit, hU, unit, fns, Fn.cells, nodes, strs, ups, bl, ↓XD, XU, refs, goneIn, Nat.beq, Nat.ble, List.isEmpty, ↓reduceIte, sevalprocAttr, hn, he, q2, q3, q4, hl, hl7]) <;> rfl, by rw [hk]; exact hg⟩
  · rintro i hi rfl
    refine ⟨by simp (maxSteps := 10000000) -implicitDefEqProofs +contextual (disch := omega) only [ub_impl_CheckUnit_16, rr_impl_CheckUnit, ↓XD, XU, refs, goneIn, Nat.beq, Nat.ble, List.isEmpty, ↓reduceIte, sevalprocAttr, hU, unit, fns, Fn.cells, nodes, strs, ups, Int.lt_irrefl], by simp⟩
end Go.Proofs.Try.Av
end
section
attribute [local congr] ite_congr
set_option linter.unusedSimpArgs false
set_option linter.unusedVariables false
set_option maxRecDepth 10000
set_option maxHeartbeats 1000000
namespace Go.Proofs.Try.Av
open Go Go.Av Classical
theorem li_13 (fs : List Fn) (f : Fn) (t fi : Int) (H : Heap) (ed : Edges) (hv : f.Vars.length ≤ 1048576) (hp0 : 0 ≤ f.Params) (hp : f.Params ≤ f.Vars.length) (hT : ∀ (x : Blk) roots, trim (H.length + 1) roots (H ++ [x]) ed = (H ++ [x], ed)) (a0 : List Bool) (hok0 : a0.length = f.Vars.length) : EV A (.loop (B_impl_CheckUnit 13)) (⟨[(0, unit fs), (1, .ptr 0 0 0 1), (2, .ptr 1 0 0 1), (3, .int .i64 t), (49, fns fs), (50, .int .i64 fs.length), (51, .int .i64 fs.length), (78, .int .i64 fs.length), (79, .int .i64 fs.length), (90, fns fs), (91, .int .i64 fs.length), (92, .int .i64 fs.length), (113, fns fs), (114, .int .i64 fs.length), (115, .int .i64 fs.length), (186, fns fs), (187, .int .i64 fs.length), (188, .int .i64 fs.length), (242, fns fs), (243, .int .i64 fs.length), (244, .int .i64 fi), (27, .ptr 2 0 0 1), (26, .int .i64 fi), (28, .ptr 4 0 0 1), (29, .sl H.length 0 f.Vars.length f.Vars.length), (261, .int .i64 f.Params), (262, .int .i64 (0))], [], H ++ [.cells 1 (bl a0)], ed⟩ : St) = some (AExit.exit 26, (⟨[(0, unit fs), (1, .ptr 0 0 0 1), (2, .ptr 1 0 0 1), (3, .int .i64 t), (49, fns fs), (50, .int .i64 fs.length), (51, .int .i64 fs.length), (78, .int .i64 fs.length), (79, .int .i64 fs.length), (90, fns fs), (91, .int .i64 fs.length), (92, .int .i64 fs.length), (113, fns fs), (114, .int .i64 fs.length), (115, .int .i64 fs.length), (186, fns fs), (187, .int .i64 fs.length), (188, .int .i64 fs.length), (242, fns fs), (243, .int .i64 fs.length), (244, .int .i64 fi), (27, .ptr 2 0 0 1), (26, .int .i64 fi), (28, .ptr 4 0 0 1), (29, .sl H.length 0 f.Vars.length f.Vars.length), (261, .int .i64 f.Params), (262, .int .i64 (f.Params))], [], H ++ [.cells 1 (bl (iter (fun (i : Int) (a : List Bool) => a.set i.toNat true) ((f.Params : Int) - 0).toNat (0) a0))], ed⟩ : St)) ∧ (iter (fun (i : Int) (a : List Bool) => a.set i.toNat true) ((f.Params : Int) - 0).toNat (0) a0).length = f.Vars.length := by
  refine loop_iter (fun i (a : List Bool) => (⟨[(0, unit fs), (1, .ptr 0 0 0 1), (2, .ptr 1 0 0 1), (3, .int .i64 t), (49, fns fs), (50, .int .i64 fs.length), (51, .int .i64 fs.length), (78, .int .i64 fs.length), (79, .int .i64 fs.length), (90, fns fs), (91, .int .i64 fs.length), (92, .int .i64 fs.length), (113, fns fs), (114, .int .i64 fs.length), (115, .int .i64 fs.length), (186, fns fs), (187, .int .i64 fs.length), (188, .int .i64 fs.length), (242, fns fs), (243, .int .i64 fs.length), (244, .int .i64 fi), (27, .ptr 2 0 0 1), (26, .int .i64 fi), (28, .ptr 4 0 0 1), (29, .sl H.length 0 f.Vars.length f.Vars.length), (261, .int .i64 f.Params), (262, .int .i64 i)], [], H ++ [.cells 1 (bl a)], ed⟩ : St)) (fun (i : Int) (a : List Bool) => a.set i.toNat true) (fun i (a : List Bool) => a.length = f.Vars.length) (fun a => (AExit.exit 26, (⟨[(0, unit fs), (1, .ptr 0 0 0 1), (2, .ptr 1 0 0 1), (3, .int .i64 t), (49, fns fs), (50, .int .i64 fs.length), (51, .int .i64 fs.length), (78, .int .i64 fs.length), (79, .int .i64 fs.length), (90, fns fs), (91, .int .i64 fs.length), (92, .int .i64 fs.length), (113, fns fs), (114, .int .i64 fs.length), (115, .int .i64 fs.length), (186, fns fs), (187, .int .i64 fs.length), (188, .int .i64 fs.length), (242, fns fs), (243, .int .i64 fs.length), (244, .int .i64 fi), (27, .ptr 2 0 0 1), (26, .int .i64 fi), (28, .ptr 4 0 0 1), (29, .sl H.length 0 f.Vars.length f.Vars.length), (261, .int .i64 f.Params), (262, .int .i64 (f.Params))], [], H ++ [.cells 1 (bl a)], ed⟩ : St))) (0) (f.Params) ?_ ?_ (0) a0 (by omega) (by omega) hok0
  · intro i a hi hn hok
    refine ⟨⟨_, by simp (maxSteps := 10000000) -implicitDefEqProofs +contextual (disch := omega) only [ub_impl_CheckUnit_13, rr_impl_CheckUnit, ↓XD, XU, refs, goneIn, Nat.beq, Nat.ble, List.isEmpty, ↓reduceIte, sevalprocAttr, bl, hn, hok]; rfl, by first | (simp [St.next, trim_all, hT]; done) | (simp [St.next, trim_all, hT]; omega) | (simp [St.next, trim, bare, refsL, refs, hT]; done)⟩, by simp; omega⟩
  · rintro i a hi rfl hok
    refine ⟨by simp (maxSteps := 10000000) -implicitDefEqProofs +contextual (disch := omega) only [ub_impl_CheckUnit_13, rr_impl_CheckUnit, ↓XD, XU, refs, goneIn, Nat.beq, Nat.ble, List.isEmpty, ↓reduceIte, sevalprocAttr, bl, Int.lt_irrefl, hok], by simp⟩
noncomputable abbrev gB (nf nu nv : Nat) (K : Int) (refs : List Int) (vis : Int → Prop) (j : Int) (s : Bool × List Bool) : Bool × List Bool :=
  if K = 27 then (decide (s.1 = true ∨ nth refs j < 0 ∨ (nu : Int) ≤ nth refs j), s.2)
  else if K = 36 then (decide (s.1 = true ∨ nth refs j < 0 ∨ (nf : Int) ≤ nth refs j), s.2)
  else if nth refs j < 0 ∨ (nv : Int) ≤ nth refs j then (true, s.2)
  else if K = 2 ∨ K = 7 ∨ K = 8 ∨ K = 12 then (decide (s.1 = true ∨ nth s.2 (nth refs j) = true), s.2.set (nth refs j).toNat true)
  else if K = 26 then (decide (s.1 = true ∨ ¬vis (nth refs j)), s.2)
  else s
theorem lookV_one {H : Heap} {id : Nat} {v : Int} {b : Bool} (z : PV) (h : H[id]? = some (.map [(.int .i64 v, .bool b)])) : lookV 0 z false H (.mp id) (.int .i64 v) = some (.bool b) := by
  have h1 : entriesOf H (.mp id) = some [(.int .i64 v, .bool b)] := by simp only [entriesOf, h]
  have h2 : findKey 0 (.int .i64 v) [(.int .i64 v, .bool b)] = some (some (.bool b)) := by simp [findKey, eqCell]
  simp only [lookV, h1, h2]; rfl
abbrev E14 (fs : List Fn) (f : Fn) (t fi : Int) (h : Nat) (n : Int) : Env := [(0, unit fs), (1, .ptr 0 0 0 1), (2, .ptr 1 0 0 1), (3, .int .i64 t), (49, fns fs), (50, .int .i64 fs.length), (51, .int .i64 fs.length), (78, .int .i64 fs.length), (79, .int .i64 fs.length), (90, fns fs), (91, .int .i64 fs.length), (92, .int .i64 fs.length), (113, fns fs), (114, .int .i64 fs.length), (115, .int .i64 fs.length), (186, fns fs), (187, .int .i64 fs.length), (188, .int .i64 fs.length), (242, fns fs), (243, .int .i64 fs.length), (244, .int .i64 fi), (27, .ptr 2 0 0 1), (26, .int .i64 fi), (28, .ptr 4 0 0 1), (29, .sl h 0 f.Vars.length f.Vars.length), (261, .int .i64 f.Params), (262, .int .i64 f.Params), (270, nodes f.Nodes), (271, .int .i64 f.Nodes.length), (272, .int .i64 n)]
abbrev E15 (fs : List Fn) (f : Fn) (t fi : Int) (h : Nat) (n : Int) (nd : Node) (bd : Bool) (j : Int) : Env := [(0, unit fs), (1, .ptr 0 0 0 1), (2, .ptr 1 0 0 1), (3, .int .i64 t), (49, fns fs), (50, .int .i64 fs.length), (51, .int .i64 fs.length), (78, .int .i64 fs.length), (79, .int .i64 fs.length), (90, fns fs), (91, .int .i64 fs.length), (92, .int .i64 fs.length), (113, fns fs), (114, .int .i64 fs.length), (115, .int .i64 fs.length), (186, fns fs), (187, .int .i64 fs.length), (188, .int .i64 fs.length), (242, fns fs), (243, .int .i64 fs.length), (244, .int .i64 fi), (27, .ptr 2 0 0 1), (26, .int .i64 fi), (28, .ptr 4 0 0 1), (29, .sl h 0 f.Vars.length f.Vars.length), (261, .int .i64 f.Params), (262, .int .i64 f.Params), (270, nodes f.Nodes), (271, .int .i64 f.Nodes.length), (272, .int .i64 n), (32, .ptr (h + 1) 0 0 1), (31, .int .i64 n), (33, .bool bd), (278, ints nd.Refs), (279, .int .i64 nd.Refs.length), (280, .int .i64 j)]
theorem li_15 (fs : List Fn) (f : Fn) (t fi n : Int) (nd : Node) (H : Heap) (ed : Edges) (vis : Int → Prop) (rows : List (List PV)) (hv : f.Vars.length ≤ 1048576) (hu : f.Ups.length ≤ 1048576) (hfs : fs.length ≤ 1048576) (hb : nd.Refs.length ≤ 1048576) (n0 : 0 ≤ n) (n1 : n < rows.length) (hT : ∀ (x y : Blk) roots, trim (H.length + 2) roots (H ++ [x, y]) ed = (H ++ [x, y], ed)) (q0 : ∀ l, (H ++ l)[0]? = some (.cells 1 [[fns fs]])) (q2 : ∀ l, (H ++ l)[2]? = some (.cells 7 [f.cells])) (q4 : ∀ l, (H ++ l)[4]? = some (.cells 1 [[.sl 3 0 rows.length rows.length]])) (q3 : ∀ l, (H ++ l)[3]? = some (.cells 1 rows)) (hK : nd.Kind = 26 → nd.Refs.length = 1 ∧ ∃ (id : Nat) (b : Bool), nth rows n = [.mp id] ∧ (∀ l, (H ++ l)[id]? = some (.map [(.int .i64 (nth nd.Refs 0), .bool b)])) ∧ (b = true ↔ 0 ≤ nth nd.Refs 0 ∧ nth nd.Refs 0 < f.Vars.length ∧ vis (nth nd.Refs 0))) (a0 : Bool × List Bool) (hok0 : a0.2.length = f.Vars.length) : OnSum (fun (a : Bool × List Bool) => EV A (.loop (B_impl_CheckUnit 15)) (⟨E15 fs f t fi H.length n nd a0.1 (0), [], H ++ [.cells 1 (bl a0.2), .cells 8 [nd.cells]], ed⟩ : St) = some (AExit.exit 30, (⟨E15 fs f t fi H.length n nd a.1 (nd.Refs.length), [], H ++ [.cells 1 (bl a.2), .cells 8 [nd.cells]], ed⟩ : St)) ∧ a.2.length = f.Vars.length) (fun (r : Empty) => ∃ st, EV A (.loop (B_impl_CheckUnit 15)) (⟨E15 fs f t fi H.length n nd a0.1 (0), [], H ++ [.cells 1 (bl a0.2), .cells 8 [nd.cells]], ed⟩ : St) = some (.ret, st) ∧ False) (iterx (fun (i : Int) (a : Bool × List Bool) => Sum.inl (gB fs.length f.Ups.length f.Vars.length nd.Kind nd.Refs vis i a)) ((nd.Refs.length : Int) - 0).toNat (0) a0) := by
  simp only [Fn.cells, nodes, strs, ups, fns] at q0 q2
  refine loop_iterq (P := A) (body := (B_impl_CheckUnit 15)) (fun i (a : Bool × List Bool) => (⟨E15 fs f t fi H.length n nd a.1 i, [], H ++ [.cells 1 (bl a.2), .cells 8 [nd.cells]], ed⟩ : St)) (fun (i : Int) (a : Bool × List Bool) => Sum.inl (gB fs.length f.Ups.length f.Vars.length nd.Kind nd.Refs vis i a)) (fun i (a : Bool × List Bool) => a.2.length = f.Vars.length) (fun a => (AExit.exit 30, (⟨E15 fs f t fi H.length n nd a.1 (nd.Refs.length), [], H ++ [.cells 1 (bl a.2), .cells 8 [nd.cells]], ed⟩ : St))) (fun (r : Empty) (st : St) => False) (0) (nd.Refs.length) ?_ ?_ (0) a0 (by omega) (by omega) hok0
  · intro i a hi hn hok
    obtain ⟨bd, dl⟩ := a
    dsimp only at hok ⊢
    by_cases k1 : nd.Kind = 27
    · simp only [gB, if_pos k1]
      refine ⟨⟨_, by (simp (maxSteps := 10000000) -implicitDefEqProofs +contextual (disch := omega) only [ub_impl_CheckUnit_15, rr_impl_CheckUnit, E15, bl, Fn.cells, Node.cells, unit, fns, nodes, strs, ups, ints, ei_declares, ↓XD, XU, refs, goneIn, Nat.beq, Nat.ble, List.isEmpty, ↓reduceIte, sevalprocAttr, hn, hok, k1, q0, q2, q3, q4]) <;> rfl, by simp [St.next, E15, bl, ints, hT, Bool.or_assoc, k1]⟩, hok⟩
    · by_cases k2 : nd.Kind = 36
      · simp only [gB, if_neg k1, if_pos k2]
        refine ⟨⟨_, by (simp (maxSteps := 10000000) -implicitDefEqProofs +contextual (disch := omega) only [ub_impl_CheckUnit_15, rr_impl_CheckUnit, E15, bl, Fn.cells, Node.cells, unit, fns, nodes, strs, ups, ints, ei_declares, ↓XD, XU, refs, goneIn, Nat.beq, Nat.ble, List.isEmpty, ↓reduceIte, sevalprocAttr, hn, hok, k2, q0, q2, q3, q4]) <;> rfl, by simp [St.next, E15, bl, ints, hT, Bool.or_assoc, k2]⟩, hok⟩
      · by_cases k3 : nth nd.Refs i < 0 ∨ (f.Vars.length : Int) ≤ nth nd.Refs i
        · simp only [gB, if_neg k1, if_neg k2, if_pos k3]
          refine ⟨⟨_, by (simp (maxSteps := 10000000) -implicitDefEqProofs +contextual (disch := omega) only [ub_impl_CheckUnit_15, rr_impl_CheckUnit, E15, bl, Fn.cells, Node.cells, unit, fns, nodes, strs, ups, ints, ei_declares, ↓XD, XU, refs, goneIn, Nat.beq, Nat.ble, List.isEmpty, ↓reduceIte, sevalprocAttr, hn, hok, k1, k2, k3, q0, q2, q3, q4]) <;> rfl, by simp [St.next, E15, bl, ints, hT, Bool.or_assoc]⟩, hok⟩
        · by_cases k4 : nd.Kind = 2 ∨ nd.Kind = 7 ∨ nd.Kind = 8 ∨ nd.Kind = 12
          · simp only [gB, if_neg k1, if_neg k2, if_neg k3, if_pos k4]
            have k3' := not_or.1 k3
            refine ⟨⟨_, by (simp (maxSteps := 10000000) -implicitDefEqProofs +contextual (disch := omega) only [ub_impl_CheckUnit_15, rr_impl_CheckUnit, E15, bl, Fn.cells, Node.cells, unit, fns, nodes, strs, ups, ints, ei_declares, ↓XD, XU, refs, goneIn, Nat.beq, Nat.ble, List.isEmpty, ↓reduceIte, sevalprocAttr, hn, hok, k1, k2, k3'.1, k3'.2, k4, q0, q2, q3, q4]) <;> rfl, by simp [St.next, E15, bl, ints, hT, Bool.or_assoc]⟩, by simpa using hok⟩
          · have k3' := not_or.1 k3
            by_cases k5 : nd.Kind = 26
            · simp only [gB, if_neg k1, if_neg k2, if_neg k3, if_neg k4, if_pos k5]
              obtain ⟨hr, id, b, hrow, hmap, hbv⟩ := hK k5
              have hi0 : i = 0 := by omega
              subst hi0
              have hb2 : b = decide (vis (nth nd.Refs 0)) := by
                rw [Bool.eq_iff_iff, decide_eq_true_eq, hbv]
                exact ⟨fun h => h.2.2, fun h => ⟨by omega, by omega, h⟩⟩
              have hlk := fun l => lookV_one (.bool false) (hmap l)
              subst hb2
              refine ⟨⟨_, by (simp (maxSteps := 10000000) -implicitDefEqProofs +contextual (disch := omega) only [ub_impl_CheckUnit_15, rr_impl_CheckUnit, E15, bl, Fn.cells, Node.cells, unit, fns, nodes, strs, ups, ints, ei_declares, ↓XD, XU, refs, goneIn, Nat.beq, Nat.ble, List.isEmpty, ↓reduceIte, sevalprocAttr, hn, hok, k5, k3'.1, k3'.2, q0, q2, q3, q4, n0, n1, hrow, hlk]) <;> rfl, by simp [St.next, E15, bl, ints, hT, Bool.or_assoc, k5]⟩, hok⟩
            · simp only [gB, if_neg k1, if_neg k2, if_neg k3, if_neg k4, if_neg k5]
              refine ⟨⟨_, by (simp (maxSteps := 10000000) -implicitDefEqProofs +contextual (disch := omega) only [ub_impl_CheckUnit_15, rr_impl_CheckUnit, E15, bl, Fn.cells, Node.cells, unit, fns, nodes, strs, ups, ints, ei_declares, ↓XD, XU, refs, goneIn, Nat.beq, Nat.ble, List.isEmpty, ↓reduceIte, sevalprocAttr, hn, hok, k1, k2, k3'.1, k3'.2, k4, k5, q0, q2, q3, q4]) <;> rfl, by simp [St.next, E15, bl, ints, hT, Bool.or_assoc]⟩, hok⟩
  · rintro i a hi rfl hok
    refine ⟨by simp (maxSteps := 10000000) -implicitDefEqProofs +contextual (disch := omega) only [ub_impl_CheckUnit_15, rr_impl_CheckUnit, ↓XD, XU, refs, goneIn, Nat.beq, Nat.ble, List.isEmpty, ↓reduceIte, sevalprocAttr, E15, Int.lt_irrefl, hok], by simp⟩
end Go.Proofs.Try.Av
end
section
attribute [local congr] ite_congr
set_option linter.unusedSimpArgs false
set_option linter.unusedVariables false
set_option maxRecDepth 10000
set_option maxHeartbeats 1000000
namespace Go.Proofs.Try.Av
open Go Go.Av Classical
theorem iterx_inl {σ ρ : Type} (g : Int → σ → σ) : ∀ (m : Nat) (i : Int) (a : σ), iterx (ρ := ρ) (fun i a => .inl (g i a)) m i a = .inl (iter g m i a)
  | 0, _, _ => rfl
  | m + 1, i, a => by rw [iterx, iter]; exact iterx_inl g m (i + 1) (g i a)
theorem gB_true (nf nu nv : Nat) (K : Int) (refs : List Int) (vis : Int → Prop) : ∀ (m : Nat) (i : Int) (s : Bool × List Bool), s.1 = true → (iter (fun j s => gB nf nu nv K refs vis j s) m i s).1 = true
  | 0, _, _, h => h
  | m + 1, i, s, h => by
    rw [iter]
    refine gB_true nf nu nv K refs vis m (i + 1) _ ?_
    simp only [gB]
    repeat' split
    all_goals first | rfl | exact h | exact decide_eq_true (.inl h)
theorem gB_decl (nf nu nv : Nat) (K : Int) (refs : List Int) (vis : Int → Prop) (hK : K = 2 ∨ K = 7 ∨ K = 8 ∨ K = 12) : ∀ (m : Nat) (i : Int) (s : List Bool), match iterx (gRef nv refs) m i s with
    | .inl s' => iter (fun j s => gB nf nu nv K refs vis j s) m i (false, s) = (false, s')
    | .inr _ => (iter (fun j s => gB nf nu nv K refs vis j s) m i (false, s)).1 = true
  | 0, _, _ => rfl
  | m + 1, i, s => by
    have k1 : ¬K = 27 := by omega
    have k2 : ¬K = 36 := by omega
    rw [iterx, iter]
    by_cases h1 : nth refs i < 0 ∨ (nv : Int) ≤ nth refs i
    · have e1 : gRef nv refs i s = .inr () := by rw [gRef, if_pos h1]
      have e2 : gB nf nu nv K refs vis i (false, s) = (true, s) := by rw [gB, if_neg k1, if_neg k2, if_pos h1]
      simp only [e1, e2]
      exact gB_true _ _ _ _ _ _ _ _ _ rfl
    · by_cases h2 : nth s (nth refs i) = true
      · have e1 : gRef nv refs i s = .inr () := by rw [gRef, if_neg h1, if_pos h2]
        have e2 : gB nf nu nv K refs vis i (false, s) = (true, s.set (nth refs i).toNat true) := by rw [gB, if_neg k1, if_neg k2, if_neg h1, if_pos hK]; simp [h2]
        simp only [e1, e2]
        exact gB_true _ _ _ _ _ _ _ _ _ rfl
      · have e1 : gRef nv refs i s = .inl (s.set (nth refs i).toNat true) := by rw [gRef, if_neg h1, if_neg h2]
        have e2 : gB nf nu nv K refs vis i (false, s) = (false, s.set (nth refs i).toNat true) := by rw [gB, if_neg k1, if_neg k2, if_neg h1, if_pos hK]; simp [h2]
        simp only [e1, e2]
        exact gB_decl nf nu nv K refs vis hK m (i + 1) _
theorem shape_norefs {ns : List Node} {a : Int} (h : Shape ns a) (hk : ¬((nth ns a).Kind = 2 ∨ (nth ns a).Kind = 7 ∨ (nth ns a).Kind = 8 ∨ (nth ns a).Kind = 12)) (h2 : ¬(nth ns a).Kind = 26) (h3 : ¬(nth ns a).Kind = 27) (h4 : ¬(nth ns a).Kind = 36) : (nth ns a).Refs.length = 0 := by
  obtain ⟨_, _, h⟩ := h
  rcases h with ⟨_, _, _, h⟩ | ⟨_, _, h⟩
  · simp only [Stmt, Bare] at h
    omega
  · simp only [Expr, Bare] at h
    omega
theorem gB_refs (fs : List Fn) (f : Fn) (hf : FnT f) (n : Int) (n0 : 0 ≤ n) (n1 : n < f.Nodes.length) (s : List Bool) : match refsRes fs f (growP f.Nodes) n s with
    | some s' => iter (fun j s => gB fs.length f.Ups.length f.Vars.length (nth f.Nodes n).Kind (nth f.Nodes n).Refs (Visible f (growP f.Nodes) n) j s) (((nth f.Nodes n).Refs.length : Int) - 0).toNat 0 (false, s) = (false, s')
    | none => (iter (fun j s => gB fs.length f.Ups.length f.Vars.length (nth f.Nodes n).Kind (nth f.Nodes n).Refs (Visible f (growP f.Nodes) n) j s) (((nth f.Nodes n).Refs.length : Int) - 0).toNat 0 (false, s)).1 = true := by
  have hr := hf.hr n n0 n1
  rw [refsRes]
  by_cases k1 : (nth f.Nodes n).Kind = 27
  · rw [if_pos k1, hr (.inr (.inl k1))]
    have e : iter (fun j s => gB fs.length f.Ups.length f.Vars.length (nth f.Nodes n).Kind (nth f.Nodes n).Refs (Visible f (growP f.Nodes) n) j s) (((1 : Nat) : Int) - 0).toNat 0 (false, s) = (decide (false = true ∨ nth (nth f.Nodes n).Refs 0 < 0 ∨ (f.Ups.length : Int) ≤ nth (nth f.Nodes n).Refs 0), s) := by
      show gB _ _ _ _ _ _ _ _ = _
      rw [gB, if_pos k1]
    rw [e]
    by_cases h : 0 ≤ nth (nth f.Nodes n).Refs 0 ∧ nth (nth f.Nodes n).Refs 0 < f.Ups.length
    · rw [if_pos h]
      have : ¬(false = true ∨ nth (nth f.Nodes n).Refs 0 < 0 ∨ (f.Ups.length : Int) ≤ nth (nth f.Nodes n).Refs 0) := by simp; omega
      simp only [decide_eq_false this]
    · rw [if_neg h]
      exact decide_eq_true (by omega)
  · by_cases k2 : (nth f.Nodes n).Kind = 36
    · rw [if_neg k1, if_pos k2, hr (.inr (.inr k2))]
      have e : iter (fun j s => gB fs.length f.Ups.length f.Vars.length (nth f.Nodes n).Kind (nth f.Nodes n).Refs (Visible f (growP f.Nodes) n) j s) (((1 : Nat) : Int) - 0).toNat 0 (false, s) = (decide (false = true ∨ nth (nth f.Nodes n).Refs 0 < 0 ∨ (fs.length : Int) ≤ nth (nth f.Nodes n).Refs 0), s) := by
        show gB _ _ _ _ _ _ _ _ = _
        rw [gB, if_neg k1, if_pos k2]
      rw [e]
      by_cases h : 0 ≤ nth (nth f.Nodes n).Refs 0 ∧ nth (nth f.Nodes n).Refs 0 < fs.length
      · rw [if_pos h]
        have : ¬(false = true ∨ nth (nth f.Nodes n).Refs 0 < 0 ∨ (fs.length : Int) ≤ nth (nth f.Nodes n).Refs 0) := by simp; omega
        simp only [decide_eq_false this]
      · rw [if_neg h]
        exact decide_eq_true (by omega)
    · rw [if_neg k1, if_neg k2]
      by_cases k3 : (nth f.Nodes n).Kind = 26
      · rw [if_pos k3, hr (.inl k3)]
        by_cases h : nth (nth f.Nodes n).Refs 0 < 0 ∨ (f.Vars.length : Int) ≤ nth (nth f.Nodes n).Refs 0
        · have e : iter (fun j s => gB fs.length f.Ups.length f.Vars.length (nth f.Nodes n).Kind (nth f.Nodes n).Refs (Visible f (growP f.Nodes) n) j s) (((1 : Nat) : Int) - 0).toNat 0 (false, s) = (true, s) := by
            show gB _ _ _ _ _ _ _ _ = _
            rw [gB, if_neg k1, if_neg k2, if_pos h]
          rw [e, if_neg (fun hh => hh.1 h)]
        · have e : iter (fun j s => gB fs.length f.Ups.length f.Vars.length (nth f.Nodes n).Kind (nth f.Nodes n).Refs (Visible f (growP f.Nodes) n) j s) (((1 : Nat) : Int) - 0).toNat 0 (false, s) = (decide (false = true ∨ ¬Visible f (growP f.Nodes) n (nth (nth f.Nodes n).Refs 0)), s) := by
            show gB _ _ _ _ _ _ _ _ = _
            rw [gB, if_neg k1, if_neg k2, if_neg h, if_neg (by omega), if_pos k3]
          rw [e]
          by_cases hv : Visible f (growP f.Nodes) n (nth (nth f.Nodes n).Refs 0)
          · rw [if_pos ⟨h, hv⟩]
            simp [hv]
          · rw [if_neg (fun hh => hv hh.2)]
            simp [hv]
      · rw [if_neg k3]
        by_cases k4 : (nth f.Nodes n).Kind = 2 ∨ (nth f.Nodes n).Kind = 7 ∨ (nth f.Nodes n).Kind = 8 ∨ (nth f.Nodes n).Kind = 12
        · have := gB_decl fs.length f.Ups.length f.Vars.length (nth f.Nodes n).Kind (nth f.Nodes n).Refs (Visible f (growP f.Nodes) n) k4 (((nth f.Nodes n).Refs.length : Int) - 0).toNat 0 s
          cases hx : iterx (gRef f.Vars.length (nth f.Nodes n).Refs) (((nth f.Nodes n).Refs.length : Int) - 0).toNat 0 s with
          | inl s' => rw [hx] at this; exact this
          | inr u => rw [hx] at this; exact this
        · rw [shape_norefs (hf.hsh n n0 n1) k4 k3 k1 k2]
          rfl
theorem scopes1 (b0 b1 : Blk) (f : Fn) (hf : FnT f) : ∃ H' ed' rows, ES A n_impl_scopes [.agg f.cells, .fn n_impl_CheckUnit_S1 [.ptr 2 0 0 1, .ptr 4 0 0 1]] (h5 b0 b1 f (List.replicate f.Nodes.length [.nilm])) = some (.tup [], H', ed') ∧ H'[0]? = some b0 ∧ H'[1]? = some b1 ∧ H'[2]? = some (.cells 7 [f.cells]) ∧ H'[4]? = some (.cells 1 [[.sl 3 0 f.Nodes.length f.Nodes.length]]) ∧ Maps f 3 (fun m : Int => 0 ≤ m ∧ m < f.Nodes.length) H' rows ∧ 5 ≤ H'.length ∧ ∀ e ∈ ed', (e.1 = 3 ∧ 3 < e.2) ∧ e.2 < H'.length := by
  obtain ⟨H', ed', h1, ⟨rows, hm⟩, h2, h3, h4⟩ := es_scopes hf (h5 b0 b1 f (List.replicate f.Nodes.length [.nilm])) (cid := 3) (by simp [h5]) (See1 f hf 5 2 3 4 (by decide) (by decide) (by decide) (by decide) (by decide)) ⟨rfl, rfl⟩ ⟨List.replicate f.Nodes.length [.nilm], ⟨rfl, by simp, fun m m0 m1 => .inl ⟨nth_rep m0 m1, fun h => h.1⟩⟩⟩
  exact ⟨H', ed', rows, h1, h2 0 (by simp [h5]) (by decide), h2 1 (by simp [h5]) (by decide), h2 2 (by simp [h5]) (by decide), h2 4 (by simp [h5]) (by decide), hm, h3, h4⟩
theorem li_14 (fs : List Fn) (f : Fn) (t fi : Int) (H : Heap) (ed : Edges) (rows : List (List PV)) (hf : FnT f) (hfs : fs.length ≤ 1048576) (hE : ∀ e ∈ ed, e.2 < H.length) (h5 : 5 ≤ H.length) (p0 : H[0]? = some (.cells 1 [[fns fs]])) (p1 : H[1]? = some (.cells 3 [[.int .i64 0, .int .i64 0, .int .i64 0]])) (p2 : H[2]? = some (.cells 7 [f.cells])) (p4 : H[4]? = some (.cells 1 [[.sl 3 0 f.Nodes.length f.Nodes.length]])) (hM : Maps f 3 (fun m : Int => 0 ≤ m ∧ m < f.Nodes.length) H rows) (a0 : List Bool) (hok0 : a0.length = f.Vars.length) : OnSum (fun (a : List Bool) => EV A (.loop (B_impl_CheckUnit 14)) (⟨E14 fs f t fi H.length (0), [], H ++ [.cells 1 (bl a0)], ed⟩ : St) = some (AExit.exit 28, (⟨E14 fs f t fi H.length (f.Nodes.length), [], H ++ [.cells 1 (bl a)], ed⟩ : St)) ∧ a.length = f.Vars.length) (fun (r : Int) => ∃ st, EV A (.loop (B_impl_CheckUnit 14)) (⟨E14 fs f t fi H.length (0), [], H ++ [.cells 1 (bl a0)], ed⟩ : St) = some (.ret, st) ∧ ResAt 2 1 3 (flt3 6 fi r) st) (iterx (fun (i : Int) (a : List Bool) => gRefs fs f i a) ((f.Nodes.length : Int) - 0).toNat (0) a0) := by
  have hb := hf.hg.hb
  refine loop_iterq (P := A) (body := (B_impl_CheckUnit 14)) (fun i (a : List Bool) => (⟨E14 fs f t fi H.length i, [], H ++ [.cells 1 (bl a)], ed⟩ : St)) (fun (i : Int) (a : List Bool) => gRefs fs f i a) (fun i (a : List Bool) => a.length = f.Vars.length) (fun a => (AExit.exit 28, (⟨E14 fs f t fi H.length (f.Nodes.length), [], H ++ [.cells 1 (bl a)], ed⟩ : St))) (fun (r : Int) (st : St) => ResAt 2 1 3 (flt3 6 fi r) st) (0) (f.Nodes.length) ?_ ?_ (0) a0 (by omega) (by omega) hok0
  · intro i a hi hn hok
    have hsz := hf.hg.hsz i
    have q0 : ∀ l, (H ++ l)[0]? = some (.cells 1 [[fns fs]]) := fun l => app_old _ _ p0
    have q1 : ∀ l, (H ++ l)[1]? = some (.cells 3 [[.int .i64 0, .int .i64 0, .int .i64 0]]) := fun l => app_old _ _ p1
    have q2 : ∀ l, (H ++ l)[2]? = some (.cells 7 [f.cells]) := fun l => app_old _ _ p2
    have q4 : ∀ l, (H ++ l)[4]? = some (.cells 1 [[.sl 3 0 rows.length rows.length]]) := fun l => by rw [hM.len]; exact app_old _ _ p4
    have q3 : ∀ l, (H ++ l)[3]? = some (.cells 1 rows) := fun l => app_old _ _ hM.blk
    have hT2 : ∀ (x y : Blk) roots, trim (H.length + 2) roots (H ++ [x, y]) ed = (H ++ [x, y], ed) := fun x y roots => by
      have := trim_id (H := H ++ [x, y]) (ed := ed) (fun e h => by have := hE e h; simp; omega) roots
      simpa using this
    have hT1 : ∀ (x y : Blk) roots, bare (H.length + 1) (refsL roots) = true → trim (H.length + 1) roots (H ++ [x, y]) ed = (H ++ [x], ed) := fun x y roots hbr => by
      have := trim_app (H := H ++ [x]) (l := [y]) (ed := ed) hbr (by simp) (fun e h => by have := hE e h; omega)
      simpa using this
    have h15 := li_15 fs f t fi i (nth f.Nodes i) H ed (Visible f (growP f.Nodes) i) rows hf.hv hf.hu hfs hsz.1 hi (by rw [hM.len]; exact hn) hT2 q0 q2 q4 q3 (fun hk => ⟨hf.hr i hi hn (.inl hk), by
      rcases hM.row i hi hn with ⟨_, h⟩ | ⟨id, b, h1, h2, h3⟩
      · exact absurd ⟨⟨hi, hn⟩, hk⟩ h
      · exact ⟨id, b, h1, fun l => app_old _ _ h2, h3⟩⟩) (false, a) hok
    rw [iterx_inl] at h15
    have hg := gB_refs fs f hf i hi hn a
    rw [gRefs]
    cases hr : refsRes fs f (growP f.Nodes) i a with
    | some s' =>
      rw [hr] at hg
      simp only at hg
      rw [hg] at h15
      obtain ⟨h15, hs'⟩ := h15
      simp only [E15, unit, fns, Fn.cells, Node.cells, nodes, strs, ups, ints, bl] at h15
      have d1 : 2 < H.length + 1 := by omega
      have d2 : 4 < H.length + 1 := by omega
      have d3 : 0 < H.length := by omega
      have d4 : H ≠ [] := List.ne_nil_of_length_pos d3
      refine ⟨⟨_, by (simp (maxSteps := 10000000) -implicitDefEqProofs +contextual (disch := omega) only [ub_impl_CheckUnit_14, rr_impl_CheckUnit, E14, bl, unit, fns, Fn.cells, Node.cells, nodes, strs, ups, ints, ↓XD, XU, refs, goneIn, Nat.beq, Nat.ble, List.isEmpty, ↓reduceIte, sevalprocAttr, hn, hok, h15]) <;> rfl, by simp [St.next, E14, bl, bare, refsL, refs, hT1, d1, d2, d3, d4]⟩, hs'⟩
    | none =>
      rw [hr] at hg
      simp only at hg
      generalize iter (fun j s => gB fs.length f.Ups.length f.Vars.length (nth f.Nodes i).Kind (nth f.Nodes i).Refs (Visible f (growP f.Nodes) i) j s) (((nth f.Nodes i).Refs.length : Int) - 0).toNat 0 (false, a) = r at h15 hg
      obtain ⟨b, l⟩ := r
      simp only at hg
      subst hg
      obtain ⟨h15, hs'⟩ := h15
      simp only [E15, unit, fns, Fn.cells, Node.cells, nodes, strs, ups, ints, bl] at h15
      refine ⟨_, by (simp (maxSteps := 10000000) -implicitDefEqProofs +contextual (disch := omega) only [ub_impl_CheckUnit_14, rr_impl_CheckUnit, E14, bl, unit, fns, Fn.cells, Node.cells, nodes, strs, ups, ints, ↓XD, XU, refs, goneIn, Nat.beq, Nat.ble, List.isEmpty, ↓reduceIte, sevalprocAttr, hn, hok, h15, q1]) <;> rfl, by simp [ResAt, Env.get, Env.put, List.getElem?_set_self, show 1 < H.length + 2 by omega]⟩
  · rintro i a hi rfl hok
    refine ⟨by simp (maxSteps := 10000000) -implicitDefEqProofs +contextual (disch := omega) only [ub_impl_CheckUnit_14, rr_impl_CheckUnit, ↓XD, XU, refs, goneIn, Nat.beq, Nat.ble, List.isEmpty, ↓reduceIte, sevalprocAttr, E14, Int.lt_irrefl, hok], by simp⟩
end Go.Proofs.Try.Av
end
section
attribute [local congr] ite_congr
set_option linter.unusedSimpArgs false
set_option linter.unusedVariables false
set_option maxRecDepth 10000
set_option maxHeartbeats 1000000
namespace Go.Proofs.Try.Av
open Go Go.Av Classical
theorem li_12 (fs : List Fn) (t : Int) (hb : fs.length ≤ 1048576) (hF : ∀ f : Int, 0 ≤ f → f < fs.length → FnT (nth fs f)) : match seek (fun (j : Int) => badRef fs j ≠ none) 0 fs.length with | some j => ∃ st, EV A (.loop (B_impl_CheckUnit 12)) (⟨[(0, unit fs), (1, .ptr 0 0 0 1), (2, .ptr 1 0 0 1), (3, .int .i64 t), (49, fns fs), (50, .int .i64 fs.length), (51, .int .i64 fs.length), (78, .int .i64 fs.length), (79, .int .i64 fs.length), (90, fns fs), (91, .int .i64 fs.length), (92, .int .i64 fs.length), (113, fns fs), (114, .int .i64 fs.length), (115, .int .i64 fs.length), (186, fns fs), (187, .int .i64 fs.length), (188, .int .i64 fs.length), (242, fns fs), (243, .int .i64 fs.length), (244, .int .i64 (0))], [], hU fs, []⟩ : St) = some (.ret, st) ∧ ResAt 2 1 3 (flt3 6 j ((badRef fs j).getD 0)) st | none => EV A (.loop (B_impl_CheckUnit 12)) (⟨[(0, unit fs), (1, .ptr 0 0 0 1), (2, .ptr 1 0 0 1), (3, .int .i64 t), (49, fns fs), (50, .int .i64 fs.length), (51, .int .i64 fs.length), (78, .int .i64 fs.length), (79, .int .i64 fs.length), (90, fns fs), (91, .int .i64 fs.length), (92, .int .i64 fs.length), (113, fns fs), (114, .int .i64 fs.length), (115, .int .i64 fs.length), (186, fns fs), (187, .int .i64 fs.length), (188, .int .i64 fs.length), (242, fns fs), (243, .int .i64 fs.length), (244, .int .i64 (0))], [], hU fs, []⟩ : St) = some (AExit.exit 24, (⟨[(0, unit fs), (1, .ptr 0 0 0 1), (2, .ptr 1 0 0 1), (3, .int .i64 t), (49, fns fs), (50, .int .i64 fs.length), (51, .int .i64 fs.length), (78, .int .i64 fs.length), (79, .int .i64 fs.length), (90, fns fs), (91, .int .i64 fs.length), (92, .int .i64 fs.length), (113, fns fs), (114, .int .i64 fs.length), (115, .int .i64 fs.length), (186, fns fs), (187, .int .i64 fs.length), (188, .int .i64 fs.length), (242, fns fs), (243, .int .i64 fs.length), (244, .int .i64 (fs.length))], [], hU fs, []⟩ : St)) := by
  refine loop_seek (fun i => (⟨[(0, unit fs), (1, .ptr 0 0 0 1), (2, .ptr 1 0 0 1), (3, .int .i64 t), (49, fns fs), (50, .int .i64 fs.length), (51, .int .i64 fs.length), (78, .int .i64 fs.length), (79, .int .i64 fs.length), (90, fns fs), (91, .int .i64 fs.length), (92, .int .i64 fs.length), (113, fns fs), (114, .int .i64 fs.length), (115, .int .i64 fs.length), (186, fns fs), (187, .int .i64 fs.length), (188, .int .i64 fs.length), (242, fns fs), (243, .int .i64 fs.length), (244, .int .i64 i)], [], hU fs, []⟩ : St)) (fun (j : Int) => badRef fs j ≠ none) (fun (j : Int) (st : St) => ResAt 2 1 3 (flt3 6 j ((badRef fs j).getD 0)) st) (AExit.exit 24, (⟨[(0, unit fs), (1, .ptr 0 0 0 1), (2, .ptr 1 0 0 1), (3, .int .i64 t), (49, fns fs), (50, .int .i64 fs.length), (51, .int .i64 fs.length), (78, .int .i64 fs.length), (79, .int .i64 fs.length), (90, fns fs), (91, .int .i64 fs.length), (92, .int .i64 fs.length), (113, fns fs), (114, .int .i64 fs.length), (115, .int .i64 fs.length), (186, fns fs), (187, .int .i64 fs.length), (188, .int .i64 fs.length), (242, fns fs), (243, .int .i64 fs.length), (244, .int .i64 (fs.length))], [], hU fs, []⟩ : St)) (0) (fs.length) ?_ ?_ ?_ (0) (by omega) (by omega)
  · intro i hi hn hp
    have hf := hF i hi hn; have hg1 := hf.hg.hb; have hg2 := hf.hv; obtain ⟨H', ed', rows, he, q0, q1, q2, q4, hM, hlen, hed⟩ := scopes1 (.cells 1 [[fns fs]]) (.cells 3 [[.int .i64 0, .int .i64 0, .int .i64 0]]) (nth fs i) hf; have hT1 : ∀ (x : Blk) roots, trim (H'.length + 1) roots (H' ++ [x]) ed' = (H' ++ [x], ed') := (fun x roots => by have := trim_id (H := H' ++ [x]) (ed := ed') (fun e h => by have := (hed e h).2; simp; omega) roots; simpa using this); have h13 := li_13 fs (nth fs i) t i H' ed' hf.hv hf.hp0 hf.hp hT1 (List.replicate (nth fs i).Vars.length false) (by simp); have hS : seen0 (nth fs i) = iter (fun i a => a.set i.toNat true) ((nth fs i).Params - 0).toNat 0 (List.replicate (nth fs i).Vars.length false) := rfl; rw [← hS] at h13; have h14 := li_14 fs (nth fs i) t i H' ed' rows hf hb (fun e h => (hed e h).2) hlen q0 q1 q2 q4 hM (seen0 (nth fs i)) h13.2; have h13 := h13.1; have hR : refsRun fs (nth fs i) = iterx (fun (n : Int) (a : List Bool) => gRefs fs (nth fs i) n a) (((nth fs i).Nodes.length : Int) - 0).toNat 0 (seen0 (nth fs i)) := rfl; rw [← hR] at h14; simp only [h5, bl, fns, Fn.cells, nodes, strs, ups] at he; simp only [unit, fns, Fn.cells, nodes, strs, ups, bl] at h13 q2 q4; have q2' := fun l => app_old H' l q2
    cases hr : refsRun fs (nth fs i) with
    | inr n => exact absurd (by simp [badRef, hr]) hp
    | inl s' =>
      rw [hr] at h14
      obtain ⟨h14, _⟩ := h14
      simp only [E14, unit, fns, Fn.cells, nodes, strs, ups, bl] at h14
      refine ⟨_, by (simp (maxSteps := 10000000) -implicitDefEqProofs +contextual (disch := omega) only [ub_impl_CheckUnit_12, rr_impl_CheckUnit, hU, unit, fns, Fn.cells, nodes, strs, ups, bl, ↓XD, XU, refs, goneIn, Nat.beq, Nat.ble, List.isEmpty, ↓reduceIte, sevalprocAttr, hn, he, q2, q2', q4, h13, h14]) <;> rfl, ?_⟩
      refine (next_cut (c := 3) ?_ (fun e h => (hed e h).1) ?_).trans ?_
      · exact (show (2 : Nat) ≤ 3 by decide)
      · simp [bare, refsL, refs]
      · show (⟨_, [], List.take 2 (H' ++ [_]), []⟩ : St) = _
        rw [take_two (app_old _ _ q0) (app_old _ _ q1)]; rfl
  · intro i hi hn hp
    have hf := hF i hi hn; have hg1 := hf.hg.hb; have hg2 := hf.hv; obtain ⟨H', ed', rows, he, q0, q1, q2, q4, hM, hlen, hed⟩ := scopes1 (.cells 1 [[fns fs]]) (.cells 3 [[.int .i64 0, .int .i64 0, .int .i64 0]]) (nth fs i) hf; have hT1 : ∀ (x : Blk) roots, trim (H'.length + 1) roots (H' ++ [x]) ed' = (H' ++ [x], ed') := (fun x roots => by have := trim_id (H := H' ++ [x]) (ed := ed') (fun e h => by have := (hed e h).2; simp; omega) roots; simpa using this); have h13 := li_13 fs (nth fs i) t i H' ed' hf.hv hf.hp0 hf.hp hT1 (List.replicate (nth fs i).Vars.length false) (by simp); have hS : seen0 (nth fs i) = iter (fun i a => a.set i.toNat true) ((nth fs i).Params - 0).toNat 0 (List.replicate (nth fs i).Vars.length false) := rfl; rw [← hS] at h13; have h14 := li_14 fs (nth fs i) t i H' ed' rows hf hb (fun e h => (hed e h).2) hlen q0 q1 q2 q4 hM (seen0 (nth fs i)) h13.2; have h13 := h13.1; have hR : refsRun fs (nth fs i) = iterx (fun (n : Int) (a : List Bool) => gRefs fs (nth fs i) n a) (((nth fs i).Nodes.length : Int) - 0).toNat 0 (seen0 (nth fs i)) := rfl; rw [← hR] at h14; simp only [h5, bl, fns, Fn.cells, nodes, strs, ups] at he; simp only [unit, fns, Fn.cells, nodes, strs, ups, bl] at h13 q2 q4; have q2' := fun l => app_old H' l q2
    cases hr : refsRun fs (nth fs i) with
    | inl s' => exact absurd (by simp [badRef, hr]) hp
    | inr n =>
      rw [hr] at h14
      obtain ⟨st, h14, hg⟩ := h14
      simp only [E14, unit, fns, Fn.cells, nodes, strs, ups, bl] at h14
      refine ⟨_, by (simp (maxSteps := 10000000) -implicitDefEqProofs +contextual (disch := omega) only [ub_impl_CheckUnit_12, rr_impl_CheckUnit, hU, unit, fns, Fn.cells, nodes, strs, ups, bl, ↓XD, XU, refs, goneIn, Nat.beq, Nat.ble, List.isEmpty, ↓reduceIte, sevalprocAttr, hn, he, q2, q2', q4, h13, h14]) <;> rfl, by simpa [badRef, hr] using hg⟩
  · rintro i hi rfl
    refine ⟨by simp (maxSteps := 10000000) -implicitDefEqProofs +contextual (disch := omega) only [ub_impl_CheckUnit_12, rr_impl_CheckUnit, ↓XD, XU, refs, goneIn, Nat.beq, Nat.ble, List.isEmpty, ↓reduceIte, sevalprocAttr, hU, unit, fns, Fn.cells, nodes, strs, ups, Int.lt_irrefl], by simp⟩
abbrev E18 (fs : List Fn) (t n : Int) : Env := [(0, unit fs), (1, .ptr 0 0 0 1), (2, .ptr 1 0 0 1), (3, .int .i64 t), (49, fns fs), (50, .int .i64 fs.length), (51, .int .i64 fs.length), (78, .int .i64 fs.length), (79, .int .i64 fs.length), (90, fns fs), (91, .int .i64 fs.length), (92, .int .i64 fs.length), (113, fns fs), (114, .int .i64 fs.length), (115, .int .i64 fs.length), (186, fns fs), (187, .int .i64 fs.length), (188, .int .i64 fs.length), (242, fns fs), (243, .int .i64 fs.length), (244, .int .i64 fs.length), (362, fns fs), (363, .int .i64 fs.length), (364, .int .i64 fs.length), (40, .sl 2 0 fs.length fs.length), (395, fns fs), (396, .int .i64 fs.length), (397, .int .i64 n)]
abbrev E19 (fs : List Fn) (f : Fn) (t fi n : Int) : Env := [(0, unit fs), (1, .ptr 0 0 0 1), (2, .ptr 1 0 0 1), (3, .int .i64 t), (49, fns fs), (50, .int .i64 fs.length), (51, .int .i64 fs.length), (78, .int .i64 fs.length), (79, .int .i64 fs.length), (90, fns fs), (91, .int .i64 fs.length), (92, .int .i64 fs.length), (113, fns fs), (114, .int .i64 fs.length), (115, .int .i64 fs.length), (186, fns fs), (187, .int .i64 fs.length), (188, .int .i64 fs.length), (242, fns fs), (243, .int .i64 fs.length), (244, .int .i64 fs.length), (362, fns fs), (363, .int .i64 fs.length), (364, .int .i64 fs.length), (40, .sl 2 0 fs.length fs.length), (395, fns fs), (396, .int .i64 fs.length), (397, .int .i64 fi), (42, .ptr 3 0 0 1), (41, .int .i64 fi), (43, .ptr 5 0 0 1), (410, nodes f.Nodes), (411, .int .i64 f.Nodes.length), (412, .int .i64 n)]
theorem li_19 (fs : List Fn) (fi : Int) (t : Int) (K : List Bool → Heap) (h : Nat) (ed : Edges) (out : List Bool) (f0 : 0 ≤ fi) (f1 : fi < fs.length) (hb : fs.length ≤ 1048576) (hf : FnT (nth fs fi)) (hg : ∀ n : Int, 0 ≤ n → n < (nth fs fi).Nodes.length → (nth (nth fs fi).Nodes n).Kind = 36 → 0 ≤ nth (nth (nth fs fi).Nodes n).Refs 0 ∧ nth (nth (nth fs fi).Nodes n).Refs 0 < fs.length) (hl : out.length = (nth fs fi).Nodes.length) (ho : ∀ m : Int, 0 ≤ m → m < (nth fs fi).Nodes.length → (nth out m = true ↔ Bad8 fs fi m)) (hE : ∀ e ∈ ed, e.2 < h) (h6 : 6 ≤ h) (hk : ∀ a, (K a).length = h) (q1 : ∀ a l, (K a ++ l)[1]? = some (.cells 3 [[.int .i64 0, .int .i64 0, .int .i64 0]])) (q2 : ∀ a l, (K a ++ l)[2]? = some (.cells 1 (bl a))) (q4 : ∀ a l, (K a ++ l)[4]? = some (.cells 1 (bl out))) (q5 : ∀ a l, (K a ++ l)[5]? = some (.cells 1 [[.sl 4 0 (nth fs fi).Nodes.length (nth fs fi).Nodes.length]])) (q6 : ∀ a x l, (K a ++ x :: l)[h]? = some x) (q7 : ∀ a x y, (K a ++ [x]).set h y = K a ++ [y]) (s2 : ∀ a a' l, (K a ++ l).set 2 (.cells 1 (bl a')) = K a' ++ l) (a0 : List Bool) (hok0 : a0.length = fs.length) : OnSum (fun (a : List Bool) => EV A (.loop (B_impl_CheckUnit 19)) (⟨E19 fs (nth fs fi) t fi (0), [], K a0, ed⟩ : St) = some (AExit.exit 39, (⟨E19 fs (nth fs fi) t fi ((nth fs fi).Nodes.length), [], K a, ed⟩ : St)) ∧ a.length = fs.length) (fun (r : Int) => ∃ st, EV A (.loop (B_impl_CheckUnit 19)) (⟨E19 fs (nth fs fi) t fi (0), [], K a0, ed⟩ : St) = some (.ret, st) ∧ ResAt 2 1 3 (flt3 8 fi r) st) (iterx (fun (i : Int) (a : List Bool) => gMade fs fi i a) (((nth fs fi).Nodes.length : Int) - 0).toNat (0) a0) := by
  have hb2 := hf.hg.hb
  refine loop_iterq (P := A) (body := (B_impl_CheckUnit 19)) (fun i (a : List Bool) => (⟨E19 fs (nth fs fi) t fi i, [], K a, ed⟩ : St)) (fun (i : Int) (a : List Bool) => gMade fs fi i a) (fun i (a : List Bool) => a.length = fs.length) (fun a => (AExit.exit 39, (⟨E19 fs (nth fs fi) t fi ((nth fs fi).Nodes.length), [], K a, ed⟩ : St))) (fun (r : Int) (st : St) => ResAt 2 1 3 (flt3 8 fi r) st) (0) ((nth fs fi).Nodes.length) ?_ ?_ (0) a0 (by omega) (by omega) hok0
  · intro i a hi hn hok
    have hrl := hf.hr i hi hn
    have hsz := hf.hg.hsz i
    have s4 : ∀ a l, nth out i = false → (K a ++ l).set 4 (.cells 1 ((out.set i.toNat false).map fun b => [PV.bool b])) = K a ++ l := fun a l h0 => by
      have : out.set i.toNat false = out := by rw [← h0]; exact set_nth_same hi (by rw [hl]; exact hn)
      rw [this]; exact set_same (q4 a l)
    have hT : ∀ a (x : Blk) roots, bare h (refsL roots) = true → trim h roots (K a ++ [x]) ed = (K a, ed) := fun a x roots hbr => trim_app hbr (hk a) hE
    have d1 : 0 < h := by omega
    have d2 : 1 < h := by omega
    have d3 : 2 < h := by omega
    have d4 : 3 < h := by omega
    have d5 : 5 < h := by omega
    have c1 : ∀ a l b c, (((K a ++ l).set 4 b).set 2 c)[5]? = some (.cells 1 [[.sl 4 0 (nth fs fi).Nodes.length (nth fs fi).Nodes.length]]) := fun a l b c => by rw [List.getElem?_set_ne (by decide), List.getElem?_set_ne (by decide), q5]
    have c2 : ∀ a l b c, (((K a ++ l).set 4 b).set 2 c)[4]? = some b := fun a l b c => by rw [List.getElem?_set_ne (by decide), List.getElem?_set_self (by rw [List.length_append, hk]; omega)]
    have c3 : ∀ a l b c, (((K a ++ l).set 4 b).set 2 c)[1]? = some (.cells 3 [[.int .i64 0, .int .i64 0, .int .i64 0]]) := fun a l b c => by rw [List.getElem?_set_ne (by decide), List.getElem?_set_ne (by decide), q1]
    have c4 : ∀ a l b, ((K a ++ l).set 4 b)[2]? = some (.cells 1 (bl a)) := fun a l b => by rw [List.getElem?_set_ne (by decide), q2]
    have c5 : ∀ a l b c d, ((((K a ++ l).set 4 b).set 2 c).set 1 d)[1]? = some d := fun a l b c d => List.getElem?_set_self (by simp only [List.length_set, List.length_append, hk]; omega)
    have c6 : ∀ a l d, ((K a ++ l).set 1 d)[1]? = some d := fun a l d => List.getElem?_set_self (by simp only [List.length_append, hk]; omega)
    have hlo : (out.set i.toNat true).length = (nth fs fi).Nodes.length := by rw [List.length_set]; exact hl
    have hns : nth (out.set i.toNat true) i = true := by rw [nth_set hi (by rw [hl]; exact hn) hi, if_pos rfl]
    by_cases h36 : (nth (nth fs fi).Nodes i).Kind = 36
    · have hg1 := hg i hi hn h36
      have hr1 := hrl (.inr (.inr h36))
      have h37 : ¬((nth (nth fs fi).Nodes i).Kind = 37 ∧ ¬(nth fs fi).Rest = true) := by omega
      by_cases h1 : nth out i = true
      · have e : gMade fs fi i a = .inr i := by
          rw [gMade, if_neg h37, if_pos h36, if_pos]
          rcases (ho i hi hn).1 h1 with h | h
          · omega
          · exact .inr h.2
        rw [e]
        refine ⟨_, by (simp (maxSteps := 10000000) -implicitDefEqProofs +contextual (disch := omega) only [ub_impl_CheckUnit_19, rr_impl_CheckUnit, E19, bl, unit, fns, Fn.cells, Node.cells, nodes, strs, ups, ints, ↓XD, XU, refs, goneIn, Nat.beq, Nat.ble, List.isEmpty, ↓reduceIte, sevalprocAttr, hn, hok, hl, hk, q1, q2, q4, q5, q6, q7, h36, hg1, hr1, h1, c1, c2, c3, c4, hns]) <;> rfl, by simp [ResAt, Env.get, Env.put, c5]⟩
      · have h1 : nth out i = false := by simpa using h1
        by_cases h2 : nth (nth (nth fs fi).Nodes i).Refs 0 ≤ fi
        · have e : gMade fs fi i a = .inr i := by
            rw [gMade, if_neg h37, if_pos h36, if_pos (.inl (.inl h2))]
          rw [e]
          refine ⟨_, by (simp (maxSteps := 10000000) -implicitDefEqProofs +contextual (disch := omega) only [ub_impl_CheckUnit_19, rr_impl_CheckUnit, E19, bl, unit, fns, Fn.cells, Node.cells, nodes, strs, ups, ints, ↓XD, XU, refs, goneIn, Nat.beq, Nat.ble, List.isEmpty, ↓reduceIte, sevalprocAttr, hn, hok, hl, hk, q1, q2, q4, q5, q6, q7, h36, hg1, hr1, h1, h2, c1, c2, c3, c4, hns]) <;> rfl, by simp [ResAt, Env.get, Env.put, c5]⟩
        · by_cases h3 : nth a (nth (nth (nth fs fi).Nodes i).Refs 0) = true
          · have e : gMade fs fi i a = .inr i := by
              rw [gMade, if_neg h37, if_pos h36, if_pos (.inl (.inr h3))]
            rw [e]
            refine ⟨_, by (simp (maxSteps := 10000000) -implicitDefEqProofs +contextual (disch := omega) only [ub_impl_CheckUnit_19, rr_impl_CheckUnit, E19, bl, unit, fns, Fn.cells, Node.cells, nodes, strs, ups, ints, ↓XD, XU, refs, goneIn, Nat.beq, Nat.ble, List.isEmpty, ↓reduceIte, sevalprocAttr, hn, hok, hl, hk, q1, q2, q4, q5, q6, q7, h36, hg1, hr1, h1, h2, h3, c1, c2, c3, c4, hns]) <;> rfl, by simp [ResAt, Env.get, Env.put, c5]⟩
          · have e : gMade fs fi i a = .inl (a.set (nth (nth (nth fs fi).Nodes i).Refs 0).toNat true) := by
              rw [gMade, if_neg h37, if_pos h36, if_neg]
              rintro ((h | h) | h)
              · exact h2 h
              · exact h3 h
              · have := (ho i hi hn).2 (.inr ⟨h36, h⟩); rw [h1] at this; cases this
            rw [e]
            have h3 : nth a (nth (nth (nth fs fi).Nodes i).Refs 0) = false := by simpa using h3
            have s4' := fun a l => s4 a l h1
            refine ⟨⟨_, by (simp (maxSteps := 10000000) -implicitDefEqProofs +contextual (disch := omega) only [ub_impl_CheckUnit_19, rr_impl_CheckUnit, E19, bl, unit, fns, Fn.cells, Node.cells, nodes, strs, ups, ints, ↓XD, XU, refs, goneIn, Nat.beq, Nat.ble, List.isEmpty, ↓reduceIte, sevalprocAttr, hn, hok, hl, hk, q1, q2, q4, q5, q6, q7, h36, hg1, hr1, h1, h2, h3, s4', s2]) <;> rfl, by simp [St.next, E19, bare, refsL, refs, hT, hk, d1, d2, d3, d4, d5]⟩, by simpa using hok⟩
    · by_cases h1 : nth out i = true
      · have e : gMade fs fi i a = .inr i := by
          rw [gMade, if_pos]
          rcases (ho i hi hn).1 h1 with h | h
          · exact h
          · exact absurd h.1 h36
        rw [e]
        refine ⟨_, by (simp (maxSteps := 10000000) -implicitDefEqProofs +contextual (disch := omega) only [ub_impl_CheckUnit_19, rr_impl_CheckUnit, E19, bl, unit, fns, Fn.cells, Node.cells, nodes, strs, ups, ints, ↓XD, XU, refs, goneIn, Nat.beq, Nat.ble, List.isEmpty, ↓reduceIte, sevalprocAttr, hn, hok, hl, hk, q1, q2, q4, q5, q6, q7, h36, h1]) <;> rfl, by simp [ResAt, Env.get, Env.put, c6]⟩
      · have e : gMade fs fi i a = .inl a := by
          rw [gMade, if_neg (fun h => h1 ((ho i hi hn).2 (.inl h))), if_neg h36]
        rw [e]
        have h1 : nth out i = false := by simpa using h1
        refine ⟨⟨_, by (simp (maxSteps := 10000000) -implicitDefEqProofs +contextual (disch := omega) only [ub_impl_CheckUnit_19, rr_impl_CheckUnit, E19, bl, unit, fns, Fn.cells, Node.cells, nodes, strs, ups, ints, ↓XD, XU, refs, goneIn, Nat.beq, Nat.ble, List.isEmpty, ↓reduceIte, sevalprocAttr, hn, hok, hl, hk, q1, q2, q4, q5, q6, q7, h36, h1]) <;> rfl, by simp [St.next, E19, bare, refsL, refs, hT, hk, d1, d2, d3, d4, d5]⟩, hok⟩
  · rintro i a hi rfl hok
    refine ⟨by simp (maxSteps := 10000000) -implicitDefEqProofs +contextual (disch := omega) only [ub_impl_CheckUnit_19, rr_impl_CheckUnit, ↓XD, XU, refs, goneIn, Nat.beq, Nat.ble, List.isEmpty, ↓reduceIte, sevalprocAttr, E19, Int.lt_irrefl, hok], by simp⟩
end Go.Proofs.Try.Av
end
section
attribute [local congr] ite_congr
set_option linter.unusedSimpArgs false
set_option linter.unusedVariables false
set_option maxRecDepth 10000
set_option maxHeartbeats 1000000
namespace Go.Proofs.Try.Av
open Go Go.Av Classical
theorem take_three {H : Heap} {a b c : Blk} (h0 : H[0]? = some a) (h1 : H[1]? = some b) (h2 : H[2]? = some c) : H.take 3 = [a, b, c] := by
  match H with
  | [] => cases h0
  | [x] => cases h1
  | [x, y] => cases h2
  | x :: y :: z :: H => cases h0; cases h1; cases h2; rfl
abbrev h6 (fs : List Fn) (b1 b2 : Blk) (f : Fn) (rows : List (List PV)) : Heap := [.cells 1 [[fns fs]], b1, b2, .cells 7 [f.cells], .cells 1 rows, .cells 1 [[.sl 4 0 f.Nodes.length f.Nodes.length]]]
theorem scopes3 (fs : List Fn) (fi : Int) (b1 b2 : Blk) (hf : FnT (nth fs fi)) (hu : ∀ k : Int, 0 ≤ k → k < fs.length → (nth fs k).Ups.length ≤ 1048576) (hg : ∀ n : Int, 0 ≤ n → n < (nth fs fi).Nodes.length → (nth (nth fs fi).Nodes n).Kind = 36 → 0 ≤ nth (nth (nth fs fi).Nodes n).Refs 0 ∧ nth (nth (nth fs fi).Nodes n).Refs 0 < fs.length) : ∃ H' ed' out, ES A n_impl_scopes [.agg (nth fs fi).cells, .fn n_impl_CheckUnit_S3 [.ptr 3 0 0 1, .ptr 5 0 0 1, .ptr 0 0 0 1]] (h6 fs b1 b2 (nth fs fi) (bl (List.replicate (nth fs fi).Nodes.length false))) = some (.tup [], H', ed') ∧ H'[0]? = some (.cells 1 [[fns fs]]) ∧ H'[1]? = some b1 ∧ H'[2]? = some b2 ∧ H'[3]? = some (.cells 7 [(nth fs fi).cells]) ∧ H'[5]? = some (.cells 1 [[.sl 4 0 (nth fs fi).Nodes.length (nth fs fi).Nodes.length]]) ∧ H'[4]? = some (.cells 1 (bl out)) ∧ out.length = (nth fs fi).Nodes.length ∧ (∀ m : Int, 0 ≤ m → m < (nth fs fi).Nodes.length → (nth out m = true ↔ Bad8 fs fi m)) ∧ 6 ≤ H'.length ∧ ∀ e ∈ ed', (e.1 = 4 ∧ 4 < e.2) ∧ e.2 < H'.length := by
  obtain ⟨H', ed', h1, ⟨out, hm⟩, h2, h3, h4⟩ := es_scopes hf (h6 fs b1 b2 (nth fs fi) (bl (List.replicate (nth fs fi).Nodes.length false))) (cid := 4) (by simp [h6]) (See3 fs fi hf hu hg 6 3 4 5 0 (by decide) (by decide) (by decide) (by decide) (by decide) (by decide) (by decide)) ⟨rfl, rfl, rfl⟩ ⟨List.replicate (nth fs fi).Nodes.length false, ⟨rfl, by simp, fun m _ _ => by rw [nth_falses]; simp⟩⟩
  exact ⟨H', ed', out, h1, h2 0 (by simp [h6]) (by decide), h2 1 (by simp [h6]) (by decide), h2 2 (by simp [h6]) (by decide), h2 3 (by simp [h6]) (by decide), h2 5 (by simp [h6]) (by decide), hm.blk, hm.len, fun m m0 m1 => by rw [hm.row m m0 m1]; exact ⟨fun h => h.2, fun h => ⟨⟨m0, m1⟩, h⟩⟩, h3, h4⟩
theorem li_18 (fs : List Fn) (t : Int) (hb : fs.length ≤ 1048576) (hF : ∀ f : Int, 0 ≤ f → f < fs.length → FnT (nth fs f)) (hR : ∀ f : Int, 0 ≤ f → f < fs.length → ∀ n : Int, 0 ≤ n → n < (nth fs f).Nodes.length → (nth (nth fs f).Nodes n).Kind = 36 → 0 ≤ nth (nth (nth fs f).Nodes n).Refs 0 ∧ nth (nth (nth fs f).Nodes n).Refs 0 < fs.length) (a0 : List Bool) (hok0 : a0.length = fs.length) : OnSum (fun (a : List Bool) => EV A (.loop (B_impl_CheckUnit 18)) (⟨E18 fs t (0), [], [.cells 1 [[fns fs]], .cells 3 [[.int .i64 0, .int .i64 0, .int .i64 0]], .cells 1 (bl a0)], []⟩ : St) = some (AExit.exit 37, (⟨E18 fs t (fs.length), [], [.cells 1 [[fns fs]], .cells 3 [[.int .i64 0, .int .i64 0, .int .i64 0]], .cells 1 (bl a)], []⟩ : St)) ∧ a.length = fs.length) (fun (r : Int × Int) => ∃ st, EV A (.loop (B_impl_CheckUnit 18)) (⟨E18 fs t (0), [], [.cells 1 [[fns fs]], .cells 3 [[.int .i64 0, .int .i64 0, .int .i64 0]], .cells 1 (bl a0)], []⟩ : St) = some (.ret, st) ∧ ResAt 2 1 3 (flt3 8 r.1 r.2) st) (iterx (fun (i : Int) (a : List Bool) => gMades fs i a) ((fs.length : Int) - 0).toNat (0) a0) := by
  refine loop_iterq (P := A) (body := (B_impl_CheckUnit 18)) (fun i (a : List Bool) => (⟨E18 fs t i, [], [.cells 1 [[fns fs]], .cells 3 [[.int .i64 0, .int .i64 0, .int .i64 0]], .cells 1 (bl a)], []⟩ : St)) (fun (i : Int) (a : List Bool) => gMades fs i a) (fun i (a : List Bool) => a.length = fs.length) (fun a => (AExit.exit 37, (⟨E18 fs t (fs.length), [], [.cells 1 [[fns fs]], .cells 3 [[.int .i64 0, .int .i64 0, .int .i64 0]], .cells 1 (bl a)], []⟩ : St))) (fun (r : Int × Int) (st : St) => ResAt 2 1 3 (flt3 8 r.1 r.2) st) (0) (fs.length) ?_ ?_ (0) a0 (by omega) (by omega) hok0
  · intro i a hi hn hok
    have hf := hF i hi hn
    have hb2 := hf.hg.hb
    obtain ⟨H', ed', out, he, p0, p1, p2, p3, p5, p4, hl, ho, hlen, hed⟩ := scopes3 fs i (.cells 3 [[.int .i64 0, .int .i64 0, .int .i64 0]]) (.cells 1 (bl a)) hf (fun k k0 k1 => (hF k k0 k1).hu) (hR i hi hn)
    have h19 := li_19 fs i t (fun a => H'.set 2 (.cells 1 (bl a))) H'.length ed' out hi hn hb hf (hR i hi hn) hl ho (fun e h => (hed e h).2) hlen (fun a => by simp) (fun a l => app_old _ _ (by rw [List.getElem?_set_ne (by decide)]; exact p1)) (fun a l => app_old _ _ (List.getElem?_set_self (by omega))) (fun a l => app_old _ _ (by rw [List.getElem?_set_ne (by decide)]; exact p4)) (fun a l => app_old _ _ (by rw [List.getElem?_set_ne (by decide)]; exact p5)) (fun a x l => by rw [List.getElem?_append_right (by simp)]; simp) (fun a x y => by rw [List.set_append_right _ _ (by simp)]; simp) (fun a a' l => by rw [List.set_append_left _ _ (by simp; omega), List.set_set]) a hok
    simp only [set_same p2] at h19
    have hI : madeIn fs i a = iterx (fun (n : Int) (a : List Bool) => gMade fs i n a) (((nth fs i).Nodes.length : Int) - 0).toNat 0 a := rfl
    rw [← hI] at h19
    simp only [h6, bl, fns, Fn.cells, nodes, strs, ups] at he
    simp only [fns, Fn.cells, nodes, strs, ups] at p3
    rw [gMades]
    cases hr : madeIn fs i a with
    | inl s' =>
      rw [hr] at h19
      obtain ⟨h19, hs'⟩ := h19
      simp only [E19, unit, fns, Fn.cells, nodes, strs, ups, bl] at h19
      refine ⟨⟨_, by (simp (maxSteps := 10000000) -implicitDefEqProofs +contextual (disch := omega) only [ub_impl_CheckUnit_18, rr_impl_CheckUnit, E18, bl, unit, fns, Fn.cells, nodes, strs, ups, ints, ↓XD, XU, refs, goneIn, Nat.beq, Nat.ble, List.isEmpty, ↓reduceIte, sevalprocAttr, hn, hok, he, p3, p5, h19]) <;> rfl, ?_⟩, hs'⟩
      refine (next_cut (c := 4) ?_ (fun e h => (hed e h).1) ?_).trans ?_
      · exact (show (3 : Nat) ≤ 4 by decide)
      · simp [bare, refsL, refs]
      · show (⟨_, [], List.take 3 (H'.set 2 _), []⟩ : St) = _
        rw [take_three (by rw [List.getElem?_set_ne (by decide)]; exact p0) (by rw [List.getElem?_set_ne (by decide)]; exact p1) (List.getElem?_set_self (by omega))]; rfl
    | inr n =>
      rw [hr] at h19
      obtain ⟨st, h19, hg2⟩ := h19
      simp only [E19, unit, fns, Fn.cells, nodes, strs, ups, bl] at h19
      exact ⟨_, by (simp (maxSteps := 10000000) -implicitDefEqProofs +contextual (disch := omega) only [ub_impl_CheckUnit_18, rr_impl_CheckUnit, E18, bl, unit, fns, Fn.cells, nodes, strs, ups, ints, ↓XD, XU, refs, goneIn, Nat.beq, Nat.ble, List.isEmpty, ↓reduceIte, sevalprocAttr, hn, hok, he, p3, p5, h19]) <;> rfl, hg2⟩
  · rintro i a hi rfl hok
    refine ⟨by simp (maxSteps := 10000000) -implicitDefEqProofs +contextual (disch := omega) only [ub_impl_CheckUnit_18, rr_impl_CheckUnit, ↓XD, XU, refs, goneIn, Nat.beq, Nat.ble, List.isEmpty, ↓reduceIte, sevalprocAttr, E18, unit, fns, Int.lt_irrefl, hok], by simp⟩
theorem li_20 (fs : List Fn) (t : Int) (l : List Bool) (hb : fs.length ≤ 1048576) (hl : l.length = fs.length) : match seek (fun (j : Int) => 0 < j ∧ ¬nth l j = true) 0 fs.length with | some j => ∃ st, EV A (.loop (B_impl_CheckUnit 20)) (⟨[(0, unit fs), (1, .ptr 0 0 0 1), (2, .ptr 1 0 0 1), (3, .int .i64 t), (49, fns fs), (50, .int .i64 fs.length), (51, .int .i64 fs.length), (78, .int .i64 fs.length), (79, .int .i64 fs.length), (90, fns fs), (91, .int .i64 fs.length), (92, .int .i64 fs.length), (113, fns fs), (114, .int .i64 fs.length), (115, .int .i64 fs.length), (186, fns fs), (187, .int .i64 fs.length), (188, .int .i64 fs.length), (242, fns fs), (243, .int .i64 fs.length), (244, .int .i64 fs.length), (362, fns fs), (363, .int .i64 fs.length), (364, .int .i64 fs.length), (40, .sl 2 0 fs.length fs.length), (395, fns fs), (396, .int .i64 fs.length), (397, .int .i64 fs.length), (456, .int .i64 fs.length), (457, .int .i64 (0))], [], [.cells 1 [[fns fs]], .cells 3 [[.int .i64 0, .int .i64 0, .int .i64 0]], .cells 1 (bl l)], []⟩ : St) = some (.ret, st) ∧ ResAt 2 1 3 (flt3 9 j 0) st | none => EV A (.loop (B_impl_CheckUnit 20)) (⟨[(0, unit fs), (1, .ptr 0 0 0 1), (2, .ptr 1 0 0 1), (3, .int .i64 t), (49, fns fs), (50, .int .i64 fs.length), (51, .int .i64 fs.length), (78, .int .i64 fs.length), (79, .int .i64 fs.length), (90, fns fs), (91, .int .i64 fs.length), (92, .int .i64 fs.length), (113, fns fs), (114, .int .i64 fs.length), (115, .int .i64 fs.length), (186, fns fs), (187, .int .i64 fs.length), (188, .int .i64 fs.length), (242, fns fs), (243, .int .i64 fs.length), (244, .int .i64 fs.length), (362, fns fs), (363, .int .i64 fs.length), (364, .int .i64 fs.length), (40, .sl 2 0 fs.length fs.length), (395, fns fs), (396, .int .i64 fs.length), (397, .int .i64 fs.length), (456, .int .i64 fs.length), (457, .int .i64 (0))], [], [.cells 1 [[fns fs]], .cells 3 [[.int .i64 0, .int .i64 0, .int .i64 0]], .cells 1 (bl l)], []⟩ : St) = some (AExit.exit 41, (⟨[(0, unit fs), (1, .ptr 0 0 0 1), (2, .ptr 1 0 0 1), (3, .int .i64 t), (49, fns fs), (50, .int .i64 fs.length), (51, .int .i64 fs.length), (78, .int .i64 fs.length), (79, .int .i64 fs.length), (90, fns fs), (91, .int .i64 fs.length), (92, .int .i64 fs.length), (113, fns fs), (114, .int .i64 fs.length), (115, .int .i64 fs.length), (186, fns fs), (187, .int .i64 fs.length), (188, .int .i64 fs.length), (242, fns fs), (243, .int .i64 fs.length), (244, .int .i64 fs.length), (362, fns fs), (363, .int .i64 fs.length), (364, .int .i64 fs.length), (40, .sl 2 0 fs.length fs.length), (395, fns fs), (396, .int .i64 fs.length), (397, .int .i64 fs.length), (456, .int .i64 fs.length), (457, .int .i64 (fs.length))], [], [.cells 1 [[fns fs]], .cells 3 [[.int .i64 0, .int .i64 0, .int .i64 0]], .cells 1 (bl l)], []⟩ : St)) := by
  refine loop_seek (fun i => (⟨[(0, unit fs), (1, .ptr 0 0 0 1), (2, .ptr 1 0 0 1), (3, .int .i64 t), (49, fns fs), (50, .int .i64 fs.length), (51, .int .i64 fs.length), (78, .int .i64 fs.length), (79, .int .i64 fs.length), (90, fns fs), (91, .int .i64 fs.length), (92, .int .i64 fs.length), (113, fns fs), (114, .int .i64 fs.length), (115, .int .i64 fs.length), (186, fns fs), (187, .int .i64 fs.length), (188, .int .i64 fs.length), (242, fns fs), (243, .int .i64 fs.length), (244, .int .i64 fs.length), (362, fns fs), (363, .int .i64 fs.length), (364, .int .i64 fs.length), (40, .sl 2 0 fs.length fs.length), (395, fns fs), (396, .int .i64 fs.length), (397, .int .i64 fs.length), (456, .int .i64 fs.length), (457, .int .i64 i)], [], [.cells 1 [[fns fs]], .cells 3 [[.int .i64 0, .int .i64 0, .int .i64 0]], .cells 1 (bl l)], []⟩ : St)) (fun (j : Int) => 0 < j ∧ ¬nth l j = true) (fun (j : Int) (st : St) => ResAt 2 1 3 (flt3 9 j 0) st) (AExit.exit 41, (⟨[(0, unit fs), (1, .ptr 0 0 0 1), (2, .ptr 1 0 0 1), (3, .int .i64 t), (49, fns fs), (50, .int .i64 fs.length), (51, .int .i64 fs.length), (78, .int .i64 fs.length), (79, .int .i64 fs.length), (90, fns fs), (91, .int .i64 fs.length), (92, .int .i64 fs.length), (113, fns fs), (114, .int .i64 fs.length), (115, .int .i64 fs.length), (186, fns fs), (187, .int .i64 fs.length), (188, .int .i64 fs.length), (242, fns fs), (243, .int .i64 fs.length), (244, .int .i64 fs.length), (362, fns fs), (363, .int .i64 fs.length), (364, .int .i64 fs.length), (40, .sl 2 0 fs.length fs.length), (395, fns fs), (396, .int .i64 fs.length), (397, .int .i64 fs.length), (456, .int .i64 fs.length), (457, .int .i64 (fs.length))], [], [.cells 1 [[fns fs]], .cells 3 [[.int .i64 0, .int .i64 0, .int .i64 0]], .cells 1 (bl l)], []⟩ : St)) (0) (fs.length) ?_ ?_ ?_ (0) (by omega) (by omega)
  · intro i hi hn hp
    by_cases hL : 0 < i
    · have hp' : nth l i = true := Classical.not_not.1 (fun h => hp ⟨hL, h⟩)
      refine ⟨_, by (simp (maxSteps := 10000000) -implicitDefEqProofs +contextual (disch := omega) only [ub_impl_CheckUnit_20, rr_impl_CheckUnit, unit, fns, bl, hl, ↓XD, XU, refs, goneIn, Nat.beq, Nat.ble, List.isEmpty, ↓reduceIte, sevalprocAttr, hn, hL, hp']) <;> rfl, by simp [St.next, trim_all]⟩
    · refine ⟨_, by (simp (maxSteps := 10000000) -implicitDefEqProofs +contextual (disch := omega) only [ub_impl_CheckUnit_20, rr_impl_CheckUnit, unit, fns, bl, hl, ↓XD, XU, refs, goneIn, Nat.beq, Nat.ble, List.isEmpty, ↓reduceIte, sevalprocAttr, hn, hL]) <;> rfl, by simp [St.next, trim_all]⟩
  · intro i hi hn hp
    have hp1 := hp.1
    have hp2 := hp.2
    refine ⟨_, by (simp (maxSteps := 10000000) -implicitDefEqProofs +contextual (disch := omega) only [ub_impl_CheckUnit_20, rr_impl_CheckUnit, unit, fns, bl, hl, ↓XD, XU, refs, goneIn, Nat.beq, Nat.ble, List.isEmpty, ↓reduceIte, sevalprocAttr, hn, hp1, hp2]) <;> rfl, by simp [ResAt, Env.get, Env.put]⟩
  · rintro i hi rfl
    refine ⟨by simp (maxSteps := 10000000) -implicitDefEqProofs +contextual (disch := omega) only [ub_impl_CheckUnit_20, rr_impl_CheckUnit, ↓XD, XU, refs, goneIn, Nat.beq, Nat.ble, List.isEmpty, ↓reduceIte, sevalprocAttr, unit, fns, bl, hl, Int.lt_irrefl], by simp⟩
theorem seek_from {p : Int → Prop} {n : Int} (h : 1 ≤ n) : seek (fun j => 0 < j ∧ p j) 0 n = seek p 1 n := by
  rw [seek_miss (by omega) (by omega)]
  exact seek_congr fun j j0 j1 => ⟨fun h => h.2, fun h => ⟨by omega, h⟩⟩
end Go.Proofs.Try.Av
end
section
attribute [local congr] ite_congr
set_option linter.unusedSimpArgs false
set_option linter.unusedVariables false
set_option maxRecDepth 10000
set_option maxHeartbeats 2000000
namespace Go.Proofs.Try.Av
open Go Go.Av Classical
theorem Fine.fnT {fs : List Fn} (h : Fine fs) (hs : SizedF fs) (h2 : (second fs).1 = 0) {f : Int} (f0 : 0 ≤ f) (f1 : f < fs.length) : FnT (nth fs f) :=
  ⟨h.fn hs h2 f0 f1, (second_tree h2).1 f f0 f1, h.shape f f0 f1⟩
theorem ep_implCheckUnit (fs : List Fn) (hb : fs.length ≤ 1048576) (ht : total fs ≤ 1048576) (hs : SizedF fs) : EP A n_impl_CheckUnit [unit fs] = some (fl3 (specFault fs)) := by
  obtain ⟨e0, k0⟩ := li_0 fs hb ht 0 (by simp [totalN])
  simp only [k0] at e0
  have hT : totalN fs (fs.length : Int).toNat = total fs := by rw [totalN, total]; simp
  rw [hT] at e0
  simp only [hU, unit, fns] at e0
  have e1 := li_1 fs (total fs) hb hs
  have e2 := li_2 fs (total fs) hb hs
  simp only [hU, unit, fns] at e1 e2
  rw [specFault]
  by_cases hB : Big fs
  · have h1 : (first fs) = (1, 0, 0) := by rw [first, if_pos hB]
    simp only [h1]
    rcases hB with (h | h) | h
    · have h : (fs.length : Int) < 1 := by omega
      simp (maxSteps := 10000000) -implicitDefEqProofs +contextual (disch := omega) only [e_impl_CheckUnit, u_impl_CheckUnit, rr_impl_CheckUnit, unit, fns, ↓XD, XU, refs, goneIn, Nat.beq, Nat.ble, List.isEmpty, ↓reduceIte, sevalprocAttr, e0, h]
    · simp (maxSteps := 10000000) -implicitDefEqProofs +contextual (disch := omega) only [e_impl_CheckUnit, u_impl_CheckUnit, rr_impl_CheckUnit, unit, fns, ↓XD, XU, refs, goneIn, Nat.beq, Nat.ble, List.isEmpty, ↓reduceIte, sevalprocAttr, e0, h]
    · simp (maxSteps := 10000000) -implicitDefEqProofs +contextual (disch := omega) only [e_impl_CheckUnit, u_impl_CheckUnit, rr_impl_CheckUnit, unit, fns, ↓XD, XU, refs, goneIn, Nat.beq, Nat.ble, List.isEmpty, ↓reduceIte, sevalprocAttr, e0, h]
  · have hb1 : ¬(fs.length : Int) < 1 := by rw [Big] at hB; omega
    have hb2 : ¬300 < (fs.length : Int) := by rw [Big] at hB; omega
    have hb3 : ¬3000 < total fs := by rw [Big] at hB; omega
    have f0 : first fs = match badHead fs with
      | some f => (2, f, 0)
      | none => match badShapes fs with
        | some f => (3, f, (badShape fs f).getD 0)
        | none => (0, 0, 0) := by rw [first, if_neg hB]; rfl
    cases k1 : badHead fs with
    | some f =>
      rw [k1] at f0
      unfold badHead at k1
      rw [k1] at e1
      obtain ⟨st, e1, g1, g2⟩ := e1
      simp only [f0]
      simp (maxSteps := 10000000) -implicitDefEqProofs +contextual (disch := omega) only [e_impl_CheckUnit, u_impl_CheckUnit, rr_impl_CheckUnit, unit, fns, ↓XD, XU, refs, goneIn, Nat.beq, Nat.ble, List.isEmpty, ↓reduceIte, sevalprocAttr, e0, e1, g1, g2, hb1, hb2, hb3]
    | none =>
      rw [k1] at f0
      unfold badHead at k1
      rw [k1] at e1
      dsimp only at e1 f0
      cases k2 : badShapes fs with
      | some f =>
        rw [k2] at f0
        unfold badShapes at k2
        rw [k2] at e2
        obtain ⟨st, e2, g1, g2⟩ := e2
        simp only [f0]
        simp (maxSteps := 10000000) -implicitDefEqProofs +contextual (disch := omega) only [e_impl_CheckUnit, u_impl_CheckUnit, rr_impl_CheckUnit, unit, fns, ↓XD, XU, refs, goneIn, Nat.beq, Nat.ble, List.isEmpty, ↓reduceIte, sevalprocAttr, e0, e1, e2, g1, g2, hb1, hb2, hb3]
      | none =>
        rw [k2] at f0
        unfold badShapes at k2
        rw [k2] at e2
        dsimp only at e2 f0
        have hf := first_fine (fs := fs) (by rw [f0])
        have hG := fun f f0 f1 => hf.grow hs (f := f) f0 f1
        have e3 := li_4 fs (total fs) hb hG
        have e4 := li_8 fs (total fs) hb hG
        have hS : badPars fs = seek (fun j => badUse fs j ≠ none) 0 fs.length := seek_congr fun j j0 j1 => by rw [badUse_same hG j0 j1]
        rw [← hS] at e3
        simp only [hU, unit, fns] at e3 e4
        rw [if_neg (by rw [f0]; simp)]
        have s0 : second fs = match badPars fs with
          | some f => (4, f, (badPar fs f).getD 0)
          | none => match badDeps fs with
            | some f => (5, f, (badDep fs f).getD 0)
            | none => (0, 0, 0) := rfl
        cases k3 : badPars fs with
        | some f =>
          rw [k3] at s0 e3
          obtain ⟨st, e3, g1, g2⟩ := e3
          obtain ⟨j0, j1, _, _⟩ := seek_some.1 k3
          rw [badUse_same hG j0 j1] at g2
          simp only [s0]
          simp (maxSteps := 10000000) -implicitDefEqProofs +contextual (disch := omega) only [e_impl_CheckUnit, u_impl_CheckUnit, rr_impl_CheckUnit, unit, fns, ↓XD, XU, refs, goneIn, Nat.beq, Nat.ble, List.isEmpty, ↓reduceIte, sevalprocAttr, e0, e1, e2, e3, g1, g2, hb1, hb2, hb3]
        | none =>
          rw [k3] at s0 e3
          dsimp only at e3 s0
          have hS2 : badDeps fs = seek (fun j => badDepI fs j ≠ none) 0 fs.length := seek_congr fun j j0 j1 => by rw [badDep_same hG k3 j0 j1]
          rw [← hS2] at e4
          cases k4 : badDeps fs with
          | some f =>
            rw [k4] at s0 e4
            obtain ⟨st, e4, g1, g2⟩ := e4
            obtain ⟨j0, j1, _, _⟩ := seek_some.1 k4
            rw [badDep_same hG k3 j0 j1] at g2
            simp only [s0]
            simp (maxSteps := 10000000) -implicitDefEqProofs +contextual (disch := omega) only [e_impl_CheckUnit, u_impl_CheckUnit, rr_impl_CheckUnit, unit, fns, ↓XD, XU, refs, goneIn, Nat.beq, Nat.ble, List.isEmpty, ↓reduceIte, sevalprocAttr, e0, e1, e2, e3, e4, g1, g2, hb1, hb2, hb3]
          | none =>
            rw [k4] at s0 e4
            dsimp only at e4 s0
            have hF := fun f f0 f1 => hf.fnT hs (by rw [s0]) (f := f) f0 f1
            have e5 := li_12 fs (total fs) hb hF
            have e6 := li_16 fs (total fs) hb hF
            simp only [hU, unit, fns] at e5 e6
            rw [if_neg (by rw [s0]; simp), third]
            cases k5 : badRefs fs with
            | some f =>
              unfold badRefs at k5
              rw [k5] at e5
              obtain ⟨st, e5, g1, g2⟩ := e5
              simp (maxSteps := 10000000) -implicitDefEqProofs +contextual (disch := omega) only [e_impl_CheckUnit, u_impl_CheckUnit, rr_impl_CheckUnit, unit, fns, ↓XD, XU, refs, goneIn, Nat.beq, Nat.ble, List.isEmpty, ↓reduceIte, sevalprocAttr, e0, e1, e2, e3, e4, e5, g1, g2, hb1, hb2, hb3]
            | none =>
              have hR := refs_fine k5
              unfold badRefs at k5
              rw [k5] at e5
              dsimp only at e5 ⊢
              cases k6 : badLoops fs with
              | some f =>
                unfold badLoops at k6
                rw [k6] at e6
                obtain ⟨st, e6, g1, g2⟩ := e6
                simp (maxSteps := 10000000) -implicitDefEqProofs +contextual (disch := omega) only [e_impl_CheckUnit, u_impl_CheckUnit, rr_impl_CheckUnit, unit, fns, ↓XD, XU, refs, goneIn, Nat.beq, Nat.ble, List.isEmpty, ↓reduceIte, sevalprocAttr, e0, e1, e2, e3, e4, e5, e6, g1, g2, hb1, hb2, hb3]
              | none =>
                unfold badLoops at k6
                rw [k6] at e6
                dsimp only at e6 ⊢
                have e7 := li_18 fs (total fs) hb hF hR (List.replicate fs.length false) (by simp)
                have hI : madeAll fs = iterx (fun (f : Int) (a : List Bool) => gMades fs f a) ((fs.length : Int) - 0).toNat 0 (List.replicate fs.length false) := rfl
                rw [← hI] at e7
                cases k7 : madeAll fs with
                | inr r =>
                  rw [k7] at e7
                  obtain ⟨st, e7, g1, g2⟩ := e7
                  simp only [E18, bl, unit, fns] at e7
                  simp (maxSteps := 10000000) -implicitDefEqProofs +contextual (disch := omega) only [e_impl_CheckUnit, u_impl_CheckUnit, rr_impl_CheckUnit, unit, fns, ↓XD, XU, refs, goneIn, Nat.beq, Nat.ble, List.isEmpty, ↓reduceIte, sevalprocAttr, e0, e1, e2, e3, e4, e5, e6, e7, g1, g2, hb1, hb2, hb3]
                | inl l =>
                  rw [k7] at e7
                  obtain ⟨e7, hl⟩ := e7
                  simp only [E18, bl, unit, fns] at e7
                  have e8 := li_20 fs (total fs) l hb hl
                  rw [seek_from (p := fun j => ¬nth l j = true) (by omega)] at e8
                  simp only [bl, unit, fns] at e8
                  dsimp only
                  cases k8 : seek (fun j => ¬nth l j = true) 1 fs.length with
                  | some f =>
                    rw [k8] at e8
                    obtain ⟨st, e8, g1, g2⟩ := e8
                    simp (maxSteps := 10000000) -implicitDefEqProofs +contextual (disch := omega) only [e_impl_CheckUnit, u_impl_CheckUnit, rr_impl_CheckUnit, unit, fns, ↓XD, XU, refs, goneIn, Nat.beq, Nat.ble, List.isEmpty, ↓reduceIte, sevalprocAttr, e0, e1, e2, e3, e4, e5, e6, e7, e8, g1, g2, hb1, hb2, hb3]
                  | none =>
                    rw [k8] at e8
                    simp (maxSteps := 10000000) -implicitDefEqProofs +contextual (disch := omega) only [e_impl_CheckUnit, u_impl_CheckUnit, rr_impl_CheckUnit, unit, fns, ↓XD, XU, refs, goneIn, Nat.beq, Nat.ble, List.isEmpty, ↓reduceIte, sevalprocAttr, e0, e1, e2, e3, e4, e5, e6, e7, e8, hb1, hb2, hb3]
end Go.Proofs.Try.Av
end
