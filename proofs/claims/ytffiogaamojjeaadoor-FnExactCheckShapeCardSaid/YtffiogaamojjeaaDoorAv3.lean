/- A verified evaluator of the machine's code, for any program. No condition. -/
import Derived.Test.YtffiogaamojjeaaDoorAv2
set_option linter.all false
section
set_option linter.unusedVariables false
set_option linter.unusedSimpArgs false
namespace Go.Av
open Go
section
variable {P : AProg}
def stoK : Option (Heap × Edges) → Option (PV × Heap × Edges)
  | some (H, ed) => some (.und, H, ed)
  | none => none
theorem stoK_some (H : Heap) (ed : Edges) : stoK (some (H, ed)) = some (.und, H, ed) := rfl
theorem e_store (sz : Nat) (a x : Opd) (st : St) : evOp P.glob (CL P) st (.store sz a x) = stoK (storeAt st.H sz (a.get P.glob st) (x.get P.glob st)) := by
  simp only [evOp]; cases storeAt st.H sz (a.get P.glob st) (x.get P.glob st) <;> rfl
def stR (H : Heap) (id row off sz s : Nat) (rows : List (List PV)) (x : List PV) : Bool → Option (List PV) → Option (Heap × Edges)
  | true, some cs => if x.length = sz ∧ off + sz ≤ cs.length ∧ x.all isLeaf = true then some (H.set id (.cells s (rows.set row (cs.take off ++ x ++ cs.drop (off + sz)))), edgesTo id x) else none
  | _, _ => none
def stB (H : Heap) (id row off sz tot : Nat) (x : List PV) : Option Blk → Option (Heap × Edges)
  | some (.cells s rows) => stR H id row off sz s rows x (decide (tot = rows.length)) rows[row]?
  | _ => none
theorem stB_cells (H : Heap) (id row off sz tot : Nat) (x : List PV) (s : Nat) (rows : List (List PV)) : stB H id row off sz tot x (some (.cells s rows)) = stR H id row off sz s rows x (decide (tot = rows.length)) rows[row]? := rfl
theorem stR_some (H : Heap) (id row off sz s : Nat) (rows : List (List PV)) (x cs : List PV) : stR H id row off sz s rows x true (some cs) = if x.length = sz ∧ off + sz ≤ cs.length ∧ x.all isLeaf = true then some (H.set id (.cells s (rows.set row (cs.take off ++ x ++ cs.drop (off + sz)))), edgesTo id x) else none := rfl
theorem storeAt_ptr (H : Heap) (sz id row off tot : Nat) (x : PV) : storeAt H sz (.ptr id row off tot) x = stB H id row off sz tot (cellsOf x) H[id]? := by
  simp only [storeAt]
  cases H[id]? with
  | none => rfl
  | some b =>
    cases b with
    | map es => rfl
    | cells s rows =>
      rw [stB_cells]
      have : (tot == rows.length) = decide (tot = rows.length) := by rw [Bool.eq_iff_iff]; simp
      simp only [this]
      cases decide (tot = rows.length) with
      | false => cases rows[row]? <;> rfl
      | true =>
        cases rows[row]? with
        | none => rfl
        | some cs =>
          rw [stR_some]
          have : ((cellsOf x).length == sz && Nat.ble (off + sz) cs.length && (cellsOf x).all isLeaf) = decide ((cellsOf x).length = sz ∧ off + sz ≤ cs.length ∧ (cellsOf x).all isLeaf = true) := by
            rw [Bool.eq_iff_iff]; simp [and_assoc]
          simp only [this]
          by_cases h : (cellsOf x).length = sz ∧ off + sz ≤ cs.length ∧ (cellsOf x).all isLeaf = true
          · rw [decide_eq_true h, if_pos h]
          · rw [decide_eq_false h, if_neg h]
def boxK (H : Heap) (cs : List PV) : Option (PV × Heap × Edges) := if cs.all isLeaf = true then some (.ptr H.length 0 0 1, H ++ [.cells cs.length [cs]], []) else none
theorem e_box (x : Opd) (st : St) : evOp P.glob (CL P) st (.box x) = boxK st.H (cellsOf (x.get P.glob st)) := by
  simp only [evOp, boxK]; cases (cellsOf (x.get P.glob st)).all isLeaf <;> rfl
theorem e_alloc (cells : List PV) (st : St) : evOp P.glob (CL P) st (.alloc cells) = some (.ptr st.H.length 0 0 1, st.H ++ [.cells cells.length [cells]], []) := rfl
def mksK (sz bytes : Nat) (zero : List PV) (H : Heap) : PV → PV → Option (PV × Heap × Edges)
  | .int .i64 n, .int .i64 c => if 0 ≤ n ∧ n = c ∧ n * bytes ≤ 35184372088832 then some (.sl H.length 0 n.toNat n.toNat, H ++ [.cells sz (List.replicate n.toNat zero)], []) else none
  | _, _ => none
theorem mksK_int (sz bytes : Nat) (zero : List PV) (H : Heap) (n : Int) (h1 : 0 ≤ n) (h2 : n * bytes ≤ 35184372088832) : mksK sz bytes zero H (.int .i64 n) (.int .i64 n) = some (.sl H.length 0 n.toNat n.toNat, H ++ [.cells sz (List.replicate n.toNat zero)], []) := by
  rw [mksK, if_pos ⟨h1, rfl, h2⟩]
theorem e_mkslice (sz bytes : Nat) (zero : List PV) (a b : Opd) (st : St) : evOp P.glob (CL P) st (.mkslice sz bytes zero a b) = mksK sz bytes zero st.H (a.get P.glob st) (b.get P.glob st) := by
  simp only [evOp]
  cases a.get P.glob st with
  | int k n =>
    cases b.get P.glob st with
    | int k' c =>
      cases k <;> cases k' <;> first | rfl | skip
      rw [mksK]
      have : (decide (0 ≤ n) && decide (n = c) && decide (n * bytes ≤ 35184372088832)) = decide (0 ≤ n ∧ n = c ∧ n * bytes ≤ 35184372088832) := by rw [Bool.eq_iff_iff]; simp [and_assoc]
      simp only [this]
      by_cases h : 0 ≤ n ∧ n = c ∧ n * bytes ≤ 35184372088832
      · rw [decide_eq_true h, if_pos h]
      · rw [decide_eq_false h, if_neg h]
    | _ => cases k <;> rfl
  | _ => rfl
theorem eq_f (b : Bool) : (b = false) = ¬(b = true) := by cases b <;> simp
theorem not_t' (b : Bool) : ((!b) = true) = ¬(b = true) := by cases b <;> simp
theorem fillRow_nil (cs : List PV) : fillRow cs [] = some cs := rfl
theorem fillRow_cons (cs : List PV) (off : Nat) (new : List PV) (ps : List (Nat × List PV)) : fillRow cs ((off, new) :: ps) = if off + new.length ≤ cs.length ∧ new.all isLeaf = true then fillRow (cs.take off ++ new ++ cs.drop (off + new.length)) ps else none := by
  rw [fillRow]
  have : (Nat.ble (off + new.length) cs.length && new.all isLeaf) = decide (off + new.length ≤ cs.length ∧ new.all isLeaf = true) := by rw [Bool.eq_iff_iff]; simp
  rw [this]
  by_cases h : off + new.length ≤ cs.length ∧ new.all isLeaf = true
  · rw [decide_eq_true h, if_pos h]
  · rw [decide_eq_false h, if_neg h]
def buildK : Bool → Option (List PV) → Option PV
  | true, some cs => some (.agg cs)
  | _, _ => none
theorem buildK_some (cs : List PV) : buildK true (some cs) = some (.agg cs) := rfl
theorem buildV_eq (zero : List PV) (parts : List (Nat × Nat × PV)) : buildV zero parts = buildK (parts.all fun p => decide ((cellsOf p.2.2).length = p.2.1)) (fillRow zero (parts.map fun p => (p.1, cellsOf p.2.2))) := by
  have : (parts.all fun p => (cellsOf p.2.2).length == p.2.1) = parts.all fun p => decide ((cellsOf p.2.2).length = p.2.1) := by
    congr 1
  rw [buildV, this]
  cases parts.all fun p => decide ((cellsOf p.2.2).length = p.2.1) with
  | false => cases fillRow zero (parts.map fun p => (p.1, cellsOf p.2.2)) <;> rfl
  | true => cases fillRow zero (parts.map fun p => (p.1, cellsOf p.2.2)) <;> rfl
section
variable (H l : Heap)
theorem app_get0 : (H ++ l)[H.length]? = l[0]? := by rw [List.getElem?_append_right (Nat.le_refl _), Nat.sub_self]
theorem app_get (k : Nat) : (H ++ l)[H.length + k]? = l[k]? := by rw [List.getElem?_append_right (by omega)]; congr 1; omega
theorem app_old {i : Nat} {b : Blk} (h : H[i]? = some b) : (H ++ l)[i]? = some b := by
  have : i < H.length := by rcases Nat.lt_or_ge i H.length with h1 | h1; exact h1; rw [List.getElem?_eq_none h1] at h; cases h
  rw [List.getElem?_append_left this, h]
theorem app_set0 (b : Blk) : (H ++ l).set H.length b = H ++ l.set 0 b := by rw [List.set_append_right _ _ (Nat.le_refl _), Nat.sub_self]
theorem app_set (k : Nat) (b : Blk) : (H ++ l).set (H.length + k) b = H ++ l.set k b := by rw [List.set_append_right _ _ (by omega)]; congr 2; omega
theorem app_setold {i : Nat} (h : i < H.length) (b : Blk) : (H ++ l).set i b = H.set i b ++ l := by rw [List.set_append_left _ _ h]
end
theorem some_bool {b : Bool} {p : Prop} [Decidable p] (h : b = true ↔ p) : (some (PV.bool b) : Option PV) = some (.bool (decide p)) := by
  congr 2; rw [Bool.eq_iff_iff, decide_eq_true_iff]; exact h
theorem trim_same (H : Heap) (roots : List PV) : trim H.length roots H [] = (H, []) := by
  rw [trim]; cases bare H.length (refsL roots) && ([] : Edges).all _ <;> simp
theorem trim_all (n : Nat) (H : Heap) (roots : List PV) (h : H.length ≤ n) : trim n roots H [] = (H, []) := by
  rw [trim]; cases bare n (refsL roots) && ([] : Edges).all _ <;> simp [List.take_of_length_le h]
end
end Go.Av
end
section
set_option linter.unusedVariables false
set_option linter.unusedSimpArgs false
namespace Go.Av
open Go
section
variable {P : AProg}
def iter {σ : Type} (g : Int → σ → σ) : Nat → Int → σ → σ
  | 0, _, a => a
  | m + 1, i, a => iter g m (i + 1) (g i a)
theorem loop_iter {body : AC} {σ : Type} (S : Int → σ → St) (g : Int → σ → σ) (ok : Int → σ → Prop) (F : σ → AExit × St) (lo n : Int)
    (hstep : ∀ i a, lo ≤ i → i < n → ok i a → (∃ st', EV P body (S i a) = some (.normal, st') ∧ (S i a).next st' = S (i + 1) (g i a)) ∧ ok (i + 1) (g i a))
    (hend : ∀ i a, lo ≤ i → i = n → ok i a → EV P body (S i a) = some (F a) ∧ (F a).1 ≠ .normal) :
    ∀ i a, lo ≤ i → i ≤ n → ok i a → EV P (.loop body) (S i a) = some (F (iter g (n - i).toNat i a)) ∧ ok n (iter g (n - i).toNat i a) := by
  intro i a h1 h2 h3
  refine ⟨loop_fun (fun x : Int × σ => S x.1 x.2) (fun x => lo ≤ x.1 ∧ x.1 ≤ n ∧ ok x.1 x.2) (fun x => (n - x.1).toNat) (fun x => F (iter g (n - x.1).toNat x.1 x.2)) ?_ (i, a) ⟨h1, h2, h3⟩, ?_⟩
  · rintro ⟨i, a⟩ ⟨h1, h2, h3⟩
    dsimp only at h1 h2 h3 ⊢
    by_cases hn : i = n
    · left
      rw [show (n - i).toNat = 0 by omega]
      exact hend i a h1 hn h3
    · right
      obtain ⟨⟨st', h4, h5⟩, h6⟩ := hstep i a h1 (by omega) h3
      refine ⟨(i + 1, g i a), st', ⟨by dsimp only; omega, by dsimp only; omega, h6⟩, by dsimp only; omega, h4, h5, ?_⟩
      dsimp only
      rw [show (n - i).toNat = (n - (i + 1)).toNat + 1 by omega]; rfl
  · generalize hm : (n - i).toNat = m
    induction m generalizing i a with
    | zero => have : i = n := by omega
              subst this; exact h3
    | succ m ih =>
      exact ih (i + 1) (g i a) (by omega) (by omega) (hstep i a h1 (by omega) h3).2 (by omega)
def iterx {σ ρ : Type} (g : Int → σ → σ ⊕ ρ) : Nat → Int → σ → σ ⊕ ρ
  | 0, _, a => .inl a
  | m + 1, i, a => match g i a with
    | .inl a' => iterx g m (i + 1) a'
    | .inr r => .inr r
theorem loop_iterx {body : AC} {σ ρ : Type} (S : Int → σ → St) (g : Int → σ → σ ⊕ ρ) (ok : Int → σ → Prop) (F : σ → AExit × St) (X : ρ → AExit × St) (lo n : Int)
    (hstep : ∀ i a, lo ≤ i → i < n → ok i a → match g i a with
      | .inl a' => (∃ st', EV P body (S i a) = some (.normal, st') ∧ (S i a).next st' = S (i + 1) a') ∧ ok (i + 1) a'
      | .inr r => EV P body (S i a) = some (X r) ∧ (X r).1 ≠ .normal)
    (hend : ∀ i a, lo ≤ i → i = n → ok i a → EV P body (S i a) = some (F a) ∧ (F a).1 ≠ .normal) :
    ∀ i a, lo ≤ i → i ≤ n → ok i a → EV P (.loop body) (S i a) = some (match iterx g (n - i).toNat i a with | .inl a' => F a' | .inr r => X r) ∧ ∀ a', iterx g (n - i).toNat i a = .inl a' → ok n a' := by
  intro i a h1 h2 h3
  refine ⟨loop_fun (fun x : Int × σ => S x.1 x.2) (fun x => lo ≤ x.1 ∧ x.1 ≤ n ∧ ok x.1 x.2) (fun x => (n - x.1).toNat) (fun x => match iterx g (n - x.1).toNat x.1 x.2 with | .inl a' => F a' | .inr r => X r) ?_ (i, a) ⟨h1, h2, h3⟩, ?_⟩
  · rintro ⟨i, a⟩ ⟨h1, h2, h3⟩
    dsimp only at h1 h2 h3 ⊢
    by_cases hn : i = n
    · left
      rw [show (n - i).toNat = 0 by omega]
      exact hend i a h1 hn h3
    · have := hstep i a h1 (by omega) h3
      rw [show (n - i).toNat = (n - (i + 1)).toNat + 1 by omega, iterx]
      cases hg : g i a with
      | inl a' =>
        rw [hg] at this
        obtain ⟨⟨st', h4, h5⟩, h6⟩ := this
        exact .inr ⟨(i + 1, a'), st', ⟨by dsimp only; omega, by dsimp only; omega, h6⟩, by dsimp only; omega, h4, h5, rfl⟩
      | inr r =>
        rw [hg] at this
        exact .inl this
  · generalize hm : (n - i).toNat = m
    induction m generalizing i a with
    | zero =>
      intro a' h; have : i = n := by omega
      subst this; rw [iterx] at h; cases h; exact h3
    | succ m ih =>
      intro a' h
      have := hstep i a h1 (by omega) h3
      rw [iterx] at h
      cases hg : g i a with
      | inl b => rw [hg] at this h; exact ih (i + 1) b (by omega) (by omega) this.2 (by omega) a' h
      | inr r => rw [hg] at h; cases h
end
section
variable {α : Type} [Inhabited α]
theorem nth_set {l : List α} {i j : Int} {v : α} (h0 : 0 ≤ i) (h1 : i < l.length) (h2 : 0 ≤ j) : nth (l.set i.toNat v) j = if i = j then v else nth l j := by
  simp only [nth, List.getD, List.getElem?_set]
  by_cases h : i = j
  · subst h
    have : i.toNat < l.length := by omega
    simp [this]
  · have : i.toNat ≠ j.toNat := by omega
    simp [this, h]
theorem nth_rep {n : Nat} {j : Int} {v : α} (h0 : 0 ≤ j) (h1 : j < n) : nth (List.replicate n v) j = v := by
  have : j.toNat < n := by omega
  simp [nth, List.getD, this]
theorem nth_ext {l m : List α} (h : l.length = m.length) (hn : ∀ j : Int, 0 ≤ j → j < l.length → nth l j = nth m j) : l = m := by
  refine List.ext_getElem h fun i h1 h2 => ?_
  have := hn i (by omega) (by omega)
  simpa [nth, List.getD, h1, h2] using this
theorem nth_out {l : List α} {j : Int} (h0 : 0 ≤ j) (h1 : l.length ≤ j) : nth l j = default := by
  have : l.length ≤ j.toNat := by omega
  simp [nth, List.getD, this]
end
theorem idxS_map {α : Type} (sz off len tot id : Nat) (n : Int) (s : Nat) (f : α → List PV) (xs : List α) (h1 : s = sz) (h2 : tot = xs.length) (h3 : n < len) (h4 : off + len ≤ tot) : idxS sz off len tot id n (some (.cells s (xs.map f))) = some (.ptr id (off + n.toNat) 0 tot) := idxS_cells _ _ _ _ _ _ _ _ h1 (by rw [List.length_map, h2]) h3 h4
def frzS (d : Nat) (H : Heap) (off len tot : Nat) : Option Blk → PV
  | some (.cells _ rows) => if tot = rows.length ∧ off + len ≤ tot then .fz (((rows.drop off).take len).map (·.map (frz d H))) else .unk
  | _ => .unk
theorem frz_sl' (d : Nat) (H : Heap) (id off len tot : Nat) : frz (d + 1) H (.sl id off len tot) = frzS d H off len tot H[id]? := by
  rw [frz]
  cases H[id]? with
  | none => rfl
  | some b =>
    cases b with
    | map es => rfl
    | cells s rows =>
      have : (tot == rows.length && decide (off + len ≤ tot)) = decide (tot = rows.length ∧ off + len ≤ tot) := by rw [Bool.eq_iff_iff]; simp
      simp only [this, frzS]
      by_cases h : tot = rows.length ∧ off + len ≤ tot
      · rw [decide_eq_true h, if_pos h]
      · rw [decide_eq_false h, if_neg h]
theorem frzS_map {α : Type} (f : α → List PV) (xs : List α) (d : Nat) (H : Heap) (len tot s : Nat) (hf : ∀ x ∈ xs, (f x).map (frz d H) = f x) (h1 : len = xs.length) (h2 : tot = xs.length) : frzS d H 0 len tot (some (.cells s (xs.map f))) = .fz (xs.map f) := by
  subst h1
  rw [frzS, if_pos ⟨by simpa using h2, by omega⟩, List.drop_zero, List.take_of_length_le (by simp), List.map_map]
  congr 1
  exact List.map_congr_left fun x hx => hf x hx
theorem frzS_int (xs : List Int) (d : Nat) (H : Heap) (len tot s : Nat) (h1 : len = xs.length) (h2 : tot = xs.length) : frzS (d + 1) H 0 len tot (some (.cells s (xs.map fun k => [.int .i64 k]))) = .fz (xs.map fun k => [.int .i64 k]) := frzS_map _ xs _ H len tot s (fun _ _ => rfl) h1 h2
theorem frzS_bool (xs : List Bool) (d : Nat) (H : Heap) (len tot s : Nat) (h1 : len = xs.length) (h2 : tot = xs.length) : frzS (d + 1) H 0 len tot (some (.cells s (xs.map fun k => [.bool k]))) = .fz (xs.map fun k => [.bool k]) := frzS_map _ xs _ H len tot s (fun _ _ => rfl) h1 h2
theorem frzS_str (xs : List ByteArray) (d : Nat) (H : Heap) (len tot s : Nat) (h1 : len = xs.length) (h2 : tot = xs.length) : frzS (d + 1) H 0 len tot (some (.cells s (xs.map fun k => [.str k]))) = .fz (xs.map fun k => [.str k]) := frzS_map _ xs _ H len tot s (fun _ _ => rfl) h1 h2
theorem rep_row {α : Type} (f : α → List PV) (n : Nat) (v : α) : List.replicate n (f v) = (List.replicate n v).map f := by rw [List.map_replicate]
theorem rep_int (n : Nat) (v : Int) : List.replicate n [PV.int .i64 v] = (List.replicate n v).map fun k => [.int .i64 k] := by rw [List.map_replicate]
theorem rep_bool (n : Nat) (v : Bool) : List.replicate n [PV.bool v] = (List.replicate n v).map fun b => [.bool b] := by rw [List.map_replicate]
theorem set_int (l : List Int) (i : Nat) (v : Int) : (l.map fun k => [PV.int .i64 k]).set i [.int .i64 v] = (l.set i v).map fun k => [.int .i64 k] := by rw [List.map_set]
theorem set_bool (l : List Bool) (i : Nat) (v : Bool) : (l.map fun b => [PV.bool b]).set i [.bool v] = (l.set i v).map fun b => [.bool b] := by rw [List.map_set]
end Go.Av
end
section
set_option linter.unusedVariables false
namespace Go.Av
open Go Classical
theorem loop_seek {P : AProg} {body : AC} (S : Int → St) (bad : Int → Prop) (G : Int → St → Prop) (F : AExit × St) (lo n : Int)
    (hstep : ∀ i, lo ≤ i → i < n → ¬bad i → ∃ st', EV P body (S i) = some (.normal, st') ∧ (S i).next st' = S (i + 1))
    (hbad : ∀ i, lo ≤ i → i < n → bad i → ∃ st, EV P body (S i) = some (.ret, st) ∧ G i st)
    (hend : ∀ i, lo ≤ i → i = n → EV P body (S i) = some F ∧ F.1 ≠ .normal) (i : Int) (h1 : lo ≤ i) (h2 : i ≤ n) :
    match seek bad i n with | some j => ∃ st, EV P (.loop body) (S i) = some (.ret, st) ∧ G j st | none => EV P (.loop body) (S i) = some F := by
  obtain ⟨r, hr, hq⟩ := loop_ind S (fun i => lo ≤ i ∧ i ≤ n) (fun i => (n - i).toNat) (fun i r => match seek bad i n with | some j => ∃ st, r = (.ret, st) ∧ G j st | none => r = F) (by
    rintro i ⟨h1, h2⟩
    by_cases hn : i = n
    · left
      rw [seek_end bad (by omega)]
      exact ⟨F, (hend i h1 hn).1, (hend i h1 hn).2, rfl⟩
    · by_cases hp : bad i
      · left
        rw [seek_hit (by omega) hp]
        obtain ⟨st, h3, h4⟩ := hbad i h1 (by omega) hp
        exact ⟨_, h3, by simp, st, rfl, h4⟩
      · right
        obtain ⟨st', h3, h4⟩ := hstep i h1 (by omega) hp
        exact ⟨i + 1, st', ⟨by omega, by omega⟩, by omega, h3, h4, fun r h => by rw [seek_miss (by omega) hp]; exact h⟩) i ⟨h1, h2⟩
  cases hs : seek bad i n with
  | none => rw [hs] at hq; dsimp only at hq ⊢; rw [hr, hq]
  | some j =>
    rw [hs] at hq
    obtain ⟨st, rfl, h⟩ := hq
    exact ⟨st, hr, h⟩
def OnSum {σ ρ : Type} (p : σ → Prop) (q : ρ → Prop) : σ ⊕ ρ → Prop
  | .inl a => p a
  | .inr r => q r
theorem loop_iterq {P : AProg} {body : AC} {σ ρ : Type} (S : Int → σ → St) (g : Int → σ → σ ⊕ ρ) (ok : Int → σ → Prop) (F : σ → AExit × St) (G : ρ → St → Prop) (lo n : Int)
    (hstep : ∀ i a, lo ≤ i → i < n → ok i a → match g i a with
      | .inl a' => (∃ st', EV P body (S i a) = some (.normal, st') ∧ (S i a).next st' = S (i + 1) a') ∧ ok (i + 1) a'
      | .inr r => ∃ st, EV P body (S i a) = some (.ret, st) ∧ G r st)
    (hend : ∀ i a, lo ≤ i → i = n → ok i a → EV P body (S i a) = some (F a) ∧ (F a).1 ≠ .normal) (i : Int) (a : σ) (h1 : lo ≤ i) (h2 : i ≤ n) (h3 : ok i a) :
    OnSum (fun a' => EV P (.loop body) (S i a) = some (F a') ∧ ok n a') (fun r => ∃ st, EV P (.loop body) (S i a) = some (.ret, st) ∧ G r st) (iterx g (n - i).toNat i a) := by
  generalize hm : (n - i).toNat = m
  induction m generalizing i a with
  | zero =>
    have e : i = n := by omega
    obtain ⟨e1, e2⟩ := hend i a h1 e h3
    subst e
    refine ⟨?_, h3⟩
    rw [EV_loop, e1]
    generalize F a = r at e2
    obtain ⟨x, s⟩ := r
    cases x <;> first | rfl | exact absurd rfl e2
  | succ m ih =>
    have hs := hstep i a h1 (by omega) h3
    rw [iterx]
    cases hg : g i a with
    | inl a' =>
      rw [hg] at hs
      obtain ⟨⟨st', h4, h5⟩, h6⟩ := hs
      have := ih (i + 1) a' (by omega) (by omega) h6 (by omega)
      have e : EV P (.loop body) (S i a) = EV P (.loop body) (S (i + 1) a') := by rw [EV_loop, h4]; show EV P (.loop body) ((S i a).next st') = _; rw [h5]
      rw [e]; exact this
    | inr r =>
      rw [hg] at hs
      obtain ⟨st, h4, h5⟩ := hs
      exact ⟨st, by rw [EV_loop, h4], h5⟩
def frzPR (d : Nat) (H : Heap) (off : Nat) : Bool → Option (List PV) → PV
  | true, some cs => .fp (cs.map (frz d H)) off
  | _, _ => .unk
def frzP (d : Nat) (H : Heap) (row off tot : Nat) : Option Blk → PV
  | some (.cells _ rows) => frzPR d H off (decide (tot = rows.length)) rows[row]?
  | _ => .unk
theorem frzPR_some (d : Nat) (H : Heap) (off : Nat) (cs : List PV) : frzPR d H off true (some cs) = .fp (cs.map (frz d H)) off := rfl
theorem frzP_cells (d : Nat) (H : Heap) (row off tot s : Nat) (rows : List (List PV)) : frzP d H row off tot (some (.cells s rows)) = frzPR d H off (decide (tot = rows.length)) rows[row]? := rfl
theorem frz_ptr' (d : Nat) (H : Heap) (id row off tot : Nat) : frz (d + 1) H (.ptr id row off tot) = frzP d H row off tot H[id]? := by
  rw [frz]
  cases H[id]? with
  | none => rfl
  | some b =>
    cases b with
    | map es => rfl
    | cells s rows =>
      have : (tot == rows.length) = decide (tot = rows.length) := by rw [Bool.eq_iff_iff]; simp
      simp only [this, frzP]
      cases decide (tot = rows.length) <;> cases rows[row]? <;> rfl
theorem trim_take (n : Nat) (b : Bool) (H : Heap) : trim n [.bool b] H [] = (H.take n, []) := trim_bare n [.bool b] H [] rfl rfl
def ResAt (slot id sz : Nat) (cs : List PV) (st : St) : Prop := st.per.get slot = .ptr id 0 0 1 ∧ st.H[id]? = some (.cells sz [cs])
end Go.Av
end
section
set_option linter.unusedVariables false
set_option linter.unusedSimpArgs false
namespace Go.Av
open Go
def dstReg (o : AOper) : List Nat := match o.dst with | some (false, n) => [n] | _ => []
def slotsOf (o : AOper) : List Nat := regsOf o ++ dstReg o
def usedOps : List AOper → Nat → Bool
  | [], _ => false
  | o :: os, k => (slotsOf o).any (Nat.beq k) || usedOps os k
def killAfter : List Nat → List BOp → List BOp
  | [], bs => bs
  | ks, bs => .kill ks :: bs
def annot : List AOper → List BOp
  | [] => []
  | [o] => [.op o]
  | o :: o' :: os => .op o :: killAfter ((slotsOf o).filter fun k => !(usedOps (o' :: os) k)) (annot (o' :: os))
theorem opsOf_killAfter (ks : List Nat) (bs : List BOp) : opsOf (killAfter ks bs) = opsOf bs := by cases ks <;> rfl
theorem usedIn_killAfter (ks : List Nat) (bs : List BOp) (k : Nat) : usedIn (killAfter ks bs) k = usedIn bs k := by cases ks <;> rfl
theorem opsOf_annot : ∀ os, opsOf (annot os) = os
  | [] => rfl
  | [o] => rfl
  | o :: o' :: os => by rw [annot, opsOf, opsOf_killAfter, opsOf_annot]
theorem usedIn_annot : ∀ os k, usedIn (annot os) k = true → usedOps os k = true
  | [], _, h => h
  | [o], k, h => by
    simp only [annot, usedIn, Bool.or_false] at h
    simp only [usedOps, slotsOf, List.any_append, Bool.or_false, h, Bool.true_or]
  | o :: o' :: os, k, h => by
    rw [annot, usedIn, Bool.or_eq_true, usedIn_killAfter] at h
    rw [usedOps, Bool.or_eq_true]
    rcases h with h | h
    · exact .inl (by simp only [slotsOf, List.any_append, h, Bool.true_or])
    · exact .inr (usedIn_annot _ _ h)
theorem killOk_annot : ∀ os, killOk (annot os) = true
  | [] => rfl
  | [o] => rfl
  | o :: o' :: os => by
    rw [annot, killOk]
    have ih := killOk_annot (o' :: os)
    have : ∀ ks : List Nat, (∀ k ∈ ks, usedOps (o' :: os) k = false) → killOk (killAfter ks (annot (o' :: os))) = true := by
      intro ks hks
      cases ks with
      | nil => exact ih
      | cons k ks =>
        rw [killAfter, killOk, ih, Bool.and_true, List.all_eq_true]
        · intro j hj
          cases hu : usedIn (annot (o' :: os)) j with
          | false => rfl
          | true => exact absurd (usedIn_annot _ _ hu) (by rw [hks j hj]; exact Bool.false_ne_true)
        · intro h; cases h
    refine this _ fun k hk => ?_
    have := (List.mem_filter.1 hk).2
    cases hu : usedOps (o' :: os) k with
    | false => rfl
    | true => rw [hu] at this; cases this
theorem rgA {P : AProg} {ops : List AOper} {l : List BOp} (h : annot ops = l) (d : Bool) (st : St) : EV P (.region d ops) st = regK (runB P l { per := st.per, reg := [], H := st.H, ed := st.ed }) := by
  subst h
  exact XV_region d ops _ (opsOf_annot ops) (killOk_annot ops) st
def nR : AC → Nat
  | .region _ _ => 1
  | .seq a b => nR a + nR b
  | .cond _ _ a b => nR a + nR b
  | .block _ b => nR b
  | .loop b => nR b
  | _ => 0
def nB : AC → Nat
  | .seq a b => nB a + nB b
  | .cond _ _ a b => nB a + nB b
  | .block _ b => nB b
  | .loop b => nB b + 1
  | _ => 0
def regs : AC → List (List AOper)
  | .region _ os => [os]
  | .seq a b => regs a ++ regs b
  | .cond _ _ a b => regs a ++ regs b
  | .block _ b => regs b
  | .loop b => regs b
  | _ => []
def loops : AC → Nat → Nat → List (AC × Nat × Nat)
  | .seq a b, i, j => loops a i j ++ loops b (i + nR a) (j + nB a)
  | .cond _ _ a b, i, j => loops a i j ++ loops b (i + nR a) (j + nB a)
  | .block _ b, i, j => loops b i j
  | .loop b, i, j => (b, i, j + 1) :: loops b i (j + 1)
  | _, _, _ => []
def skel (R : Nat → List AOper) (B : Nat → AC) : AC → Nat → Nat → AC
  | .region d _, i, _ => .region d (R i)
  | .seq a b, i, j => .seq (skel R B a i j) (skel R B b (i + nR a) (j + nB a))
  | .cond g c a b, i, j => .cond g c (skel R B a i j) (skel R B b (i + nR a) (j + nB a))
  | .block id b, i, j => .block id (skel R B b i j)
  | .loop _, _, j => .loop (B j)
  | .skip, _, _ => .skip
  | .exit id, _, _ => .exit id
  | .ret, _, _ => .ret
theorem regs_length : ∀ c, (regs c).length = nR c
  | .region _ _ => rfl
  | .seq a b => by rw [regs, List.length_append, regs_length a, regs_length b, nR]
  | .cond _ _ a b => by rw [regs, List.length_append, regs_length a, regs_length b, nR]
  | .block _ b => regs_length b
  | .loop b => regs_length b
  | .skip => rfl
  | .exit _ => rfl
  | .ret => rfl
theorem loops_length : ∀ c i j, (loops c i j).length = nB c
  | .region _ _, _, _ => rfl
  | .seq a b, i, j => by rw [loops, List.length_append, loops_length a, loops_length b, nB]
  | .cond _ _ a b, i, j => by rw [loops, List.length_append, loops_length a, loops_length b, nB]
  | .block _ b, i, j => loops_length b i j
  | .loop b, i, j => by rw [loops, List.length_cons, loops_length b, nB]
  | .skip, _, _ => rfl
  | .exit _, _, _ => rfl
  | .ret, _, _ => rfl
theorem skel_eq (R : Nat → List AOper) (B : Nat → AC) : ∀ c i j, (∀ k, k < nR c → (regs c)[k]? = some (R (i + k))) → (∀ k, k < nB c → ((loops c i j)[k]?).map (·.1) = some (B (j + k))) → skel R B c i j = c
  | .region d os, i, j, hR, _ => by
    have := hR 0 (by rw [nR]; omega)
    simp only [regs, List.getElem?_cons_zero, Nat.add_zero, Option.some.injEq] at this
    rw [skel, ← this]
  | .seq a b, i, j, hR, hB => by
    rw [skel, skel_eq R B a i j, skel_eq R B b]
    · intro k hk
      have := hR (nR a + k) (by rw [nR]; omega)
      rw [regs, List.getElem?_append_right (by rw [regs_length]; omega), regs_length, Nat.add_sub_cancel_left] at this
      rw [this, Nat.add_assoc]
    · intro k hk
      have := hB (nB a + k) (by rw [nB]; omega)
      rw [loops, List.getElem?_append_right (by rw [loops_length]; omega), loops_length, Nat.add_sub_cancel_left] at this
      rw [this, Nat.add_assoc]
    · intro k hk
      have := hR k (by rw [nR]; omega)
      rwa [regs, List.getElem?_append_left (by rw [regs_length]; omega)] at this
    · intro k hk
      have := hB k (by rw [nB]; omega)
      rwa [loops, List.getElem?_append_left (by rw [loops_length]; omega)] at this
  | .cond g c a b, i, j, hR, hB => by
    rw [skel, skel_eq R B a i j, skel_eq R B b]
    · intro k hk
      have := hR (nR a + k) (by rw [nR]; omega)
      rw [regs, List.getElem?_append_right (by rw [regs_length]; omega), regs_length, Nat.add_sub_cancel_left] at this
      rw [this, Nat.add_assoc]
    · intro k hk
      have := hB (nB a + k) (by rw [nB]; omega)
      rw [loops, List.getElem?_append_right (by rw [loops_length]; omega), loops_length, Nat.add_sub_cancel_left] at this
      rw [this, Nat.add_assoc]
    · intro k hk
      have := hR k (by rw [nR]; omega)
      rwa [regs, List.getElem?_append_left (by rw [regs_length]; omega)] at this
    · intro k hk
      have := hB k (by rw [nB]; omega)
      rwa [loops, List.getElem?_append_left (by rw [loops_length]; omega)] at this
  | .block id b, i, j, hR, hB => by rw [skel, skel_eq R B b i j hR hB]
  | .loop b, i, j, _, hB => by
    have := hB 0 (by rw [nB]; omega)
    simp only [loops, List.getElem?_cons_zero, Nat.add_zero, Option.map_some, Option.some.injEq] at this
    rw [skel, ← this]
  | .skip, _, _, _, _ => rfl
  | .exit _, _, _, _, _ => rfl
  | .ret, _, _, _, _ => rfl
def regAt (c : AC) (i : Nat) : List AOper := (regs c).getD i []
def loopAt (c : AC) (j : Nat) : AC × Nat × Nat := (loops c 0 0).getD j (.skip, 0, 0)
def Part (c b : AC) (i j : Nat) : Prop := (∀ k, k < nR b → (regs b)[k]? = (regs c)[i + k]?) ∧ (∀ k, k < nB b → (loops b i j)[k]? = (loops c 0 0)[j + k]?) ∧ i + nR b ≤ nR c ∧ j + nB b ≤ nB c
theorem part_self (c : AC) : Part c c 0 0 := ⟨fun k _ => by rw [Nat.zero_add], fun k _ => by rw [Nat.zero_add], by omega, by omega⟩
theorem skel_part {c b : AC} {i j : Nat} (h : Part c b i j) : skel (regAt c) (fun j => (loopAt c j).1) b i j = b := by
  refine skel_eq _ _ b i j (fun k hk => ?_) fun k hk => ?_
  · have hl : i + k < (regs c).length := by rw [regs_length]; have := h.2.2.1; omega
    rw [h.1 k hk, regAt, List.getD_eq_getElem?_getD, List.getElem?_eq_getElem hl]; rfl
  · have hl : j + k < (loops c 0 0).length := by rw [loops_length]; have := h.2.2.2; omega
    show _ = some ((loops c 0 0).getD (j + k) _).1
    rw [h.2.1 k hk, List.getD_eq_getElem?_getD, List.getElem?_eq_getElem hl]; rfl
theorem loops_part : ∀ (c b : AC) (i j : Nat), Part c b i j → ∀ x i' j', (x, i', j') ∈ loops b i j → Part c x i' j'
  | c, .region _ _, i, j, _, x, i', j', hx => by cases hx
  | c, .skip, i, j, _, x, i', j', hx => by cases hx
  | c, .exit _, i, j, _, x, i', j', hx => by cases hx
  | c, .ret, i, j, _, x, i', j', hx => by cases hx
  | c, .block id b, i, j, h, x, i', j', hx => loops_part c b i j h x i' j' hx
  | c, .loop b, i, j, h, x, i', j', hx => by
    have hb : Part c b i (j + 1) := by
      refine ⟨h.1, fun k hk => ?_, h.2.2.1, by have := h.2.2.2; simp only [nB] at this; omega⟩
      have := h.2.1 (k + 1) (by rw [nB]; omega)
      rw [loops, List.getElem?_cons_succ] at this
      rw [this]; congr 1; omega
    rw [loops, List.mem_cons] at hx
    rcases hx with hx | hx
    · cases hx; exact hb
    · exact loops_part c b i (j + 1) hb x i' j' hx
  | c, .seq a b, i, j, h, x, i', j', hx => by
    rw [loops, List.mem_append] at hx
    have h3 := h.2.2.1
    have h4 := h.2.2.2
    simp only [nR, nB] at h3 h4
    rcases hx with hx | hx
    · refine loops_part c a i j ⟨fun k hk => ?_, fun k hk => ?_, by omega, by omega⟩ x i' j' hx
      · have := h.1 k (by rw [nR]; omega)
        rwa [regs, List.getElem?_append_left (by rw [regs_length]; omega)] at this
      · have := h.2.1 k (by rw [nB]; omega)
        rwa [loops, List.getElem?_append_left (by rw [loops_length]; omega)] at this
    · refine loops_part c b _ _ ⟨fun k hk => ?_, fun k hk => ?_, by omega, by omega⟩ x i' j' hx
      · have := h.1 (nR a + k) (by rw [nR]; omega)
        rw [regs, List.getElem?_append_right (by rw [regs_length]; omega), regs_length, Nat.add_sub_cancel_left] at this
        rw [this, Nat.add_assoc]
      · have := h.2.1 (nB a + k) (by rw [nB]; omega)
        rw [loops, List.getElem?_append_right (by rw [loops_length]; omega), loops_length, Nat.add_sub_cancel_left] at this
        rw [this, Nat.add_assoc]
  | c, .cond _ _ a b, i, j, h, x, i', j', hx => by
    rw [loops, List.mem_append] at hx
    have h3 := h.2.2.1
    have h4 := h.2.2.2
    simp only [nR, nB] at h3 h4
    rcases hx with hx | hx
    · refine loops_part c a i j ⟨fun k hk => ?_, fun k hk => ?_, by omega, by omega⟩ x i' j' hx
      · have := h.1 k (by rw [nR]; omega)
        rwa [regs, List.getElem?_append_left (by rw [regs_length]; omega)] at this
      · have := h.2.1 k (by rw [nB]; omega)
        rwa [loops, List.getElem?_append_left (by rw [loops_length]; omega)] at this
    · refine loops_part c b _ _ ⟨fun k hk => ?_, fun k hk => ?_, by omega, by omega⟩ x i' j' hx
      · have := h.1 (nR a + k) (by rw [nR]; omega)
        rw [regs, List.getElem?_append_right (by rw [regs_length]; omega), regs_length, Nat.add_sub_cancel_left] at this
        rw [this, Nat.add_assoc]
      · have := h.2.1 (nB a + k) (by rw [nB]; omega)
        rw [loops, List.getElem?_append_right (by rw [loops_length]; omega), loops_length, Nat.add_sub_cancel_left] at this
        rw [this, Nat.add_assoc]
theorem skC {c : AC} {R : Nat → List AOper} {B : Nat → AC} {s : (Nat → List AOper) → (Nat → AC) → AC} (hR : R = regAt c) (hB : B = fun j => (loopAt c j).1) (h : ∀ R B, skel R B c 0 0 = s R B) : c = s R B := by
  rw [hR, hB, ← h]; exact (skel_part (part_self c)).symm
theorem skB {c : AC} {R : Nat → List AOper} {B : Nat → AC} {j : Nat} {s : (Nat → List AOper) → (Nat → AC) → AC} (hR : R = regAt c) (hB : B = fun j => (loopAt c j).1) (h : ∀ R B, skel R B (loopAt c j).1 (loopAt c j).2.1 (loopAt c j).2.2 = s R B) : B j = s R B := by
  have hp : Part c (loopAt c j).1 (loopAt c j).2.1 (loopAt c j).2.2 := by
    rw [loopAt, List.getD_eq_getElem?_getD]
    by_cases hj : j < (loops c 0 0).length
    · rw [List.getElem?_eq_getElem hj]
      exact loops_part c c 0 0 (part_self c) _ _ _ (List.getElem_mem hj)
    · rw [List.getElem?_eq_none (by omega)]
      exact ⟨fun k hk => absurd hk (Nat.not_lt_zero _), fun k hk => absurd hk (Nat.not_lt_zero _), Nat.zero_le _, Nat.zero_le _⟩
  subst hR; subst hB
  rw [← h]; exact (skel_part hp).symm
end Go.Av
end
section
set_option linter.unusedVariables false
set_option linter.defProp false
set_option maxRecDepth 100000
namespace Go.Av
open Go Classical
def XD :=
  And.intro @Go.Av.X_copy <| And.intro @Go.Av.XG_copy <| And.intro @Go.Av.X_pick <| And.intro @Go.Av.XG_pick <| And.intro @Go.Av.X_load <|
  And.intro @Go.Av.XG_load <| And.intro @Go.Av.X_nilCheck <| And.intro @Go.Av.XG_nilCheck <| And.intro @Go.Av.X_bin <| And.intro @Go.Av.XG_bin <|
  And.intro @Go.Av.X_eqB <| And.intro @Go.Av.XG_eqB <| And.intro @Go.Av.X_un <| And.intro @Go.Av.XG_un <| And.intro @Go.Av.X_conv <| And.intro @Go.Av.X_prim <| And.intro @Go.Av.XG_prim <| And.intro @Go.Av.X_minmax <| And.intro @Go.Av.XG_minmax <| And.intro @Go.Av.X_indexP <| And.intro @Go.Av.XG_indexP <|
  And.intro @Go.Av.XG_conv <| And.intro @Go.Av.X_mkfn <| And.intro @Go.Av.XG_mkfn <| And.intro @Go.Av.X_fieldA <| And.intro @Go.Av.XG_fieldA <|
  And.intro @Go.Av.X_field <| And.intro @Go.Av.XG_field <| And.intro @Go.Av.X_len <| And.intro @Go.Av.XG_len <| And.intro @Go.Av.X_lenS <|
  And.intro @Go.Av.XG_lenS <| And.intro @Go.Av.X_extract <| And.intro @Go.Av.XG_extract <| And.intro @Go.Av.X_indexA <| And.intro @Go.Av.XG_indexA <|
  And.intro @Go.Av.X_call <| And.intro @Go.Av.XG_call <| And.intro @Go.Av.X_callv <| And.intro @Go.Av.XG_callv <| And.intro @Go.Av.X_build <|
  And.intro @Go.Av.XG_build <| And.intro @Go.Av.X_lookup <| And.intro @Go.Av.XG_lookup <| And.intro @Go.Av.e_store <| And.intro @Go.Av.e_box <|
  And.intro @Go.Av.e_alloc <| @Go.Av.e_mkslice
def XU :=
  And.intro @Go.Av.mkfnV.eq_1 <| And.intro @Go.Av.boxK.eq_1 <| And.intro @Go.Av.edgesTo.eq_1 <| And.intro @Go.Av.evOp.eq_1 <| And.intro @Go.Av.evOp.eq_2 <| And.intro @Go.Av.evOp.eq_3 <| And.intro @Go.Av.evOp.eq_4 <| And.intro @Go.Av.evOp.eq_5 <| And.intro @Go.Av.evOp.eq_6 <| And.intro @Go.Av.evOp.eq_7 <| And.intro @Go.Av.evOp.eq_8 <| And.intro @Go.Av.evOp.eq_9 <| And.intro @Go.Av.evOp.eq_10 <| And.intro @Go.Av.evOp.eq_11 <| And.intro @Go.Av.evOp.eq_12 <| And.intro @Go.Av.evOp.eq_13 <| And.intro @Go.Av.evOp.eq_14 <| And.intro @Go.Av.evOp.eq_15 <| And.intro @Go.Av.evOp.eq_16 <| And.intro @Go.Av.evOp.eq_17 <| And.intro @Go.Av.evOp.eq_18 <| And.intro @Go.Av.evOp.eq_19 <| And.intro @Go.Av.evOp.eq_20 <| And.intro @Go.Av.evOp.eq_21 <| And.intro @Go.Av.evOp.eq_22 <| And.intro @Go.Av.evOp.eq_23 <| And.intro @Go.Av.evOp.eq_24 <| And.intro @Go.Av.evOp.eq_25 <| And.intro @Go.Av.evOp.eq_26 <| And.intro @Go.Av.evOp.eq_27 <| And.intro @Go.Av.evOp.eq_28 <| And.intro @Go.Av.evOp.eq_29 <| And.intro @Go.Av.evOp.eq_30 <| And.intro @Go.Av.evOp.eq_31 <| And.intro @Go.Av.evOp.eq_32 <| And.intro @Go.Av.evOp.eq_33 <| And.intro @Go.Av.evOp.eq_34 <| And.intro @Go.Av.evOp.eq_35 <| And.intro @Go.Av.Opd.get.eq_1 <| And.intro @Go.Av.Opd.get.eq_2 <| And.intro @Go.Av.Opd.get.eq_3 <| And.intro @Go.Av.Opd.get.eq_4 <| And.intro @Go.Av.St.put.eq_1 <| And.intro @Go.Av.St.put.eq_2 <| And.intro @Go.Av.St.put.eq_3 <| And.intro @Go.Av.Env.get.eq_1 <| And.intro @Go.Av.Env.get.eq_2 <| And.intro @Go.Av.Env.put.eq_1 <| And.intro @Go.Av.Env.put.eq_2 <| And.intro @Go.Av.Env.erase.eq_1 <| And.intro @Go.Av.Env.erase.eq_2 <| And.intro @Go.Av.params.eq_1 <| And.intro @Go.Av.params.eq_2 <| And.intro @Go.Av.refsL.eq_1 <| And.intro @Go.Av.refsL.eq_2 <| And.intro @Go.Av.evCall.eq_1 <| And.intro @Go.Av.evCall.eq_2 <|
  And.intro @Go.Av.XV_seq <| And.intro @Go.Av.XV_cond <| And.intro @Go.Av.XV_block <| And.intro @Go.Av.EV_ret <| And.intro @Go.Av.EV_skip <|
  And.intro @Go.Av.EV_exit <| And.intro @Go.Av.X_nil <| And.intro @Go.Av.X_kill <| And.intro @List.foldl_cons.{0,0} <| And.intro @List.foldl_nil.{0,0} <|
  And.intro @Go.Av.vK_some <| And.intro @Go.Av.gv_some <| And.intro @Go.Av.loadV_fp <| And.intro @Go.Av.loadV_ptr <| And.intro @Go.Av.take_one <|
  And.intro @Go.Av.take_agg <| And.intro @Go.Av.idx_map <| And.intro @Go.Av.idx_sl <| And.intro @Go.Av.nth_some <| And.intro @Go.Av.wrap64 <|
  And.intro @Go.Av.idxS_cells <| And.intro @Go.Av.idxS_map <| And.intro @Go.Av.callV_eq <| And.intro @Go.Av.callvV_fn <| And.intro @Go.Av.callR_some <|
  And.intro @Go.Av.callR_ite <| And.intro @Go.Av.buildV_eq <| And.intro @Go.Av.buildK_some <| And.intro @Go.Av.fillRow_nil <|
  And.intro @Go.Av.fillRow_cons <| And.intro @Go.Av.loadB_cells <| And.intro @Go.Av.loadR_some <| And.intro @Go.Av.idxK_some <|
  And.intro @Go.Av.pickV_bool <| And.intro @Go.Av.pickV_ite <| And.intro @Go.Av.nilCheckV_ptr <| And.intro @Go.Av.nilCheckV_fp <|
  And.intro @Go.Av.eqBV_bool <| And.intro @Go.Av.negB_t <| And.intro @Go.Av.negB_f <| And.intro @Go.Av.convV_int <| And.intro @Go.Av.primV_bits <| And.intro @Go.Av.primV_i2f <| And.intro @Go.Av.mmV_max <| And.intro @Go.Av.mmV_min <| And.intro @Go.Av.idxP_ptr <| And.intro @Go.Av.fieldAV_ptr <|
  And.intro @Go.Av.fieldAV_fp <| And.intro @Go.Av.fieldV_agg <| And.intro @Go.Av.lenV_fz <| And.intro @Go.Av.lenV_sl <| And.intro @Go.Av.lenV_nils <|
  And.intro @Go.Av.lenSV_str <| And.intro @Go.Av.extractV_tup <| And.intro @Go.Av.bin_add <| And.intro @Go.Av.bin_sub <| And.intro @Go.Av.bin_mul <|
  And.intro @Go.Av.bin_rem <| And.intro @Go.Av.bin_quo <| And.intro @Go.Av.bin_eql <| And.intro @Go.Av.bin_neq <| And.intro @Go.Av.bin_lss <|
  And.intro @Go.Av.bin_leq <| And.intro @Go.Av.bin_gtr <| And.intro @Go.Av.bin_geq <| And.intro @Go.Av.bin_feql <| And.intro @Go.Av.bin_fneq <|
  And.intro @Go.Av.bin_flss <| And.intro @Go.Av.bin_fgtr <| And.intro @Go.Av.bin_seql <| And.intro @Go.Av.bin_sneq <| And.intro @Go.Av.un_not <|
  And.intro @Go.Av.un_neg <| And.intro @Go.Av.cellsOf_agg <| And.intro @Go.Av.cellsOf_int <| And.intro @Go.Av.cellsOf_bool <|
  And.intro @Go.Av.cellsOf_str <| And.intro @Go.Av.cellsOf_flt <| And.intro @Go.Av.cellsOf_fz <| And.intro @Go.Av.cellsOf_fp <|
  And.intro @Go.Av.cellsOf_sl <| And.intro @Go.Av.cellsOf_ptr <| And.intro @Go.Av.cellsOf_nils <| And.intro @Go.Av.cellsOf_nilm <|
  And.intro @Go.Av.cellsOf_nilf <| And.intro @Go.Av.cellsOf_nilp <| And.intro @Go.Av.cellsOf_mp <| And.intro @Go.Av.cellsOf_fm <|
  And.intro @Go.Av.cellsOf_fn <| And.intro @Go.Av.isLeaf_int <| And.intro @Go.Av.isLeaf_bool <| And.intro @Go.Av.isLeaf_str <|
  And.intro @Go.Av.isLeaf_flt <| And.intro @Go.Av.isLeaf_fz <| And.intro @Go.Av.isLeaf_fp <| And.intro @Go.Av.isLeaf_sl <|
  And.intro @Go.Av.isLeaf_ptr <| And.intro @Go.Av.isLeaf_nils <| And.intro @Go.Av.isLeaf_nilm <| And.intro @Go.Av.isLeaf_nilf <|
  And.intro @Go.Av.isLeaf_nilp <| And.intro @Go.Av.isLeaf_mp <| And.intro @Go.Av.isLeaf_fm <| And.intro @Go.Av.isLeaf_fn <|
  And.intro @Go.Av.endR_some <| And.intro @Go.Av.endP_ret <| And.intro @Go.Av.endP_normal <| And.intro @Go.Av.resC_some <|
  And.intro @Go.Av.results_tmp <| And.intro @Go.Av.results_cell <| And.intro @Go.Av.endSR_some <| And.intro @Go.Av.endS_ret <|
  And.intro @Go.Av.endS_normal <| And.intro @Go.Av.endS_ite <| And.intro @Go.Av.resVal_one <| And.intro @Go.Av.resVal_nil <|
  And.intro @Go.Av.resVal_two <| And.intro @Go.Av.plain_bool <| And.intro @Go.Av.plain_int <| And.intro @Go.Av.plain_str <|
  And.intro @Go.Av.plain_flt <| And.intro @Go.Av.stoK_some <| And.intro @Go.Av.storeAt_ptr <| And.intro @Go.Av.stB_cells <|
  And.intro @Go.Av.stR_some <| And.intro @Go.Av.mksK_int <| And.intro @List.append_assoc.{0} <| And.intro @List.length_append.{0} <|
  And.intro @Go.Av.app_get0 <| And.intro @Go.Av.app_get <| And.intro @Go.Av.app_set0 <| And.intro @Go.Av.app_set <| And.intro @List.set_cons_zero.{0} <|
  And.intro @List.set_cons_succ.{0} <| And.intro @List.filter_nil.{0} <| And.intro @List.filter_cons.{0} <| And.intro @Int.toNat_natCast <|
  And.intro @Go.Av.rep_int <| And.intro @Go.Av.rep_bool <| And.intro @Go.Av.set_int <| And.intro @Go.Av.set_bool <| And.intro @List.length_replicate.{0} <|
  And.intro @List.length_set.{0} <| And.intro @List.cons_append.{0} <| And.intro @List.take_zero.{0} <| And.intro @List.drop_zero.{0} <| And.intro @Go.Av.X_cons <|
  And.intro @Go.Av.X_guard <| And.intro @Go.Av.grdK_some <| And.intro @Go.Av.oper_plain <| And.intro @Go.Av.CL_p <| And.intro @Go.Av.CL_s <|
  And.intro @Go.Av.seqK_normal <| And.intro @Go.Av.seqK_ret <| And.intro @Go.Av.seqK_exit <| And.intro @Go.Av.seqK_ite <|
  And.intro @Go.Av.blkK_normal <| And.intro @Go.Av.blkK_ret <| And.intro @Go.Av.blkK_exit <| And.intro @Go.Av.blkK_ite <|
  And.intro @Go.Av.condK_bool <| And.intro @Go.Av.condK_ite <| And.intro @Go.Av.opsK_some <| And.intro @Go.Av.opsK_ite <| And.intro @Go.Av.putK_some <|
  And.intro @Go.Av.wantK_ite <| And.intro @Go.Av.wantK_bool <| And.intro @Go.Av.wantK_und <| And.intro @Go.Av.regK_some <| And.intro @Go.Av.regK_ite <|
  And.intro @Go.Av.ite_someB <| And.intro @Go.Av.ite_someS <| And.intro @Go.Av.ite_someV <| And.intro @Go.Av.ite_exit <| And.intro @Go.Av.ite_St <|
  And.intro @Go.Av.ite_env <| And.intro @Go.Av.ite_bool <| And.intro @Go.Av.ite_int <| And.intro @Go.Av.ite_agg <| And.intro @Go.Av.ite_cells <|
  And.intro @Go.Av.ite_blks <| And.intro @Go.Av.ite_blk <| And.intro @Go.Av.ite_rows <| And.intro @Go.Av.ite_someT <| And.intro @Bool.if_true_left <|
  And.intro @Bool.if_false_left <| And.intro @Bool.if_true_right <| And.intro @Bool.if_false_right <| And.intro @Bool.decide_eq_true <|
  And.intro @Bool.or_false <| And.intro @Bool.and_false <| And.intro @Bool.false_and <| And.intro @Bool.false_or <| And.intro @Go.Av.ite_back <|
  And.intro @Go.Av.env_get_ite <| And.intro @Go.Av.env_put_ite <| And.intro @Go.Av.env_erase_ite <| And.intro @Go.Av.endP_ite <|
  And.intro @Go.Av.frz_ite <| And.intro @Go.Av.beq_t <| And.intro @Go.Av.beq_f <| And.intro @Go.Av.eq_f <| And.intro @Go.Av.not_t' <|
  And.intro @Go.Av.not_ite <| And.intro @Classical.not_not <| And.intro @not_false_eq_true <| And.intro @not_true_eq_false <| And.intro @and_self <|
  And.intro @or_self <| And.intro @Go.Av.results_nil <| And.intro @Go.Av.frz_int <| And.intro @Go.Av.frz_bool <| And.intro @Go.Av.frz_str <|
  And.intro @Go.Av.frz_flt <| And.intro @Go.Av.frz_fz <| And.intro @Go.Av.frz_fp <| And.intro @Go.Av.frz_nils <| And.intro @Go.Av.frz_agg <|
  And.intro @Go.Av.frz_fn <| And.intro @Go.Av.frz_nilf <| And.intro @Go.Av.frz_nilm <| And.intro @Go.Av.frz_ptr' <| And.intro @Go.Av.frzP_cells <|
  And.intro @Go.Av.frzPR_some <| And.intro @Go.Av.frz_sl' <| And.intro @Go.Av.frzS_int <| And.intro @Go.Av.frzS_bool <| And.intro @Go.Av.frzS_str <|
  And.intro @Go.Av.frz_tup <| And.intro @List.append_nil.{0} <| And.intro @List.nil_append.{0} <| And.intro @List.all_cons.{0} <| And.intro @List.all_nil.{0} <|
  And.intro @Bool.and_true <| And.intro @Bool.true_and <| And.intro @List.length_cons.{0} <| And.intro @List.length_nil.{0} <|
  And.intro @List.take_succ_cons.{0} <| And.intro @List.take_nil.{0} <| And.intro @List.drop_succ_cons.{0} <| And.intro @List.drop_nil.{0} <|
  And.intro @List.getElem?_cons_zero.{0} <| And.intro @List.getElem?_cons_succ.{0} <| And.intro @List.isEmpty_nil.{0} <| And.intro @Bool.true_or <|
  And.intro @List.map_cons.{0,0} <| And.intro @List.map_nil.{0,0} <| And.intro @decide_eq_true_eq <| And.intro @Bool.false_eq_true <| And.intro @beq_iff_eq.{0} <|
  And.intro @if_true.{1} <| And.intro @if_false.{1} <| And.intro @ite_self.{1} <| And.intro @decide_true <| And.intro @decide_false <| And.intro @Bool.not_true <|
  And.intro @Bool.not_false <| And.intro @beq_self_eq_true.{0} <| And.intro @Nat.zero_add <| And.intro @Nat.add_zero <| And.intro @decide_not <|
  And.intro @Nat.le_refl <| And.intro @true_and <| And.intro @and_true <| And.intro @Bool.or_true <| And.intro @Option.map_some.{0,0} <|
  And.intro @List.getElem?_map.{0,0} <| And.intro @Bool.or_eq_true <| And.intro @Bool.and_eq_true <| And.intro @Bool.decide_or <|
  And.intro @Bool.decide_and <| And.intro @List.length_map.{0,0} <| And.intro @or_true <| And.intro @true_or <| And.intro @or_false <| And.intro @false_or <|
  And.intro @and_false <| @false_and
end Go.Av
end
section
set_option linter.unusedVariables false
set_option linter.unusedSimpArgs false
namespace Go.Av
open Go
structure TI where
  size : Nat
  bytes : Nat
  zero : Option Value
structure Tab where
  und : TypeId → Option TypeDesc
  info : TypeId → Option TI
  tags : TypeId → Option (List Nat)
  body : FuncId → Bool
  bits : FuncId → Bool
def tiOf (P : Program) (t : TypeId) : Option TI := match P.info? t with | some i => some ⟨i.size, i.bytes, i.zero⟩ | none => none
def Tab.of (P : Program) : Tab := ⟨P.underlying, tiOf P, structTags P, trBody P, isBits P⟩
def tyAggG (Q : Tab) (t : TypeId) : Option Bool :=
  match Q.und t with
  | some (.struct _) => some true
  | some (.array _ _) => some true
  | some _ => some false
  | none => none
def tySizeG (Q : Tab) (t : TypeId) : Option Nat := match Q.info t with | some i => some i.size | none => none
def tyZeroG (Q : Tab) (t : TypeId) : Option (List PV) := match Q.info t with | some i => (match i.zero with | some z => constCells z.cells.toList | none => none) | none => none
def tyZeroVG (Q : Tab) (t : TypeId) : Option PV := match Q.info t with | some i => (match i.zero with | some z => zeroPV z | none => none) | none => none
def tyElemG (Q : Tab) (t : TypeId) : Option (TypeId × Nat × Nat) :=
  match Q.und t with
  | some (.slice e) => match Q.info e with | some i => (match Nat.beq i.size 0 || Nat.beq i.bytes 0 with | true => none | false => some (e, i.size, i.bytes)) | none => none
  | _ => none
def trPlacesG (Q : Tab) : List Field → Option (List (Nat × Nat))
  | [] => some []
  | f :: fs => match Q.info f.type, trPlacesG Q fs with
    | some i, some ps => some ((f.offset, i.size) :: ps)
    | _, _ => none
def binTyG (Q : Tab) (t : TypeId) : Bool :=
  match Q.und t with
  | some (.int _) | some .string | some (.float _) => true
  | _ => false
def boolTyG (Q : Tab) (t : TypeId) : Bool :=
  match Q.und t with
  | some .bool => true
  | _ => false
def eqTagG (Q : Tab) (t : TypeId) : Option Nat :=
  match Q.und t with
  | some (.int _) => some 0
  | some .bool => some 1
  | some .string => some 2
  | _ => none
def trCallG (Q : Tab) (T : Tell) (dst : Option Nat) (c : Call) : Option AOp :=
  match c.callee with
  | .value f => match funcOpd f with
    | some g => match Q.body g, trOpds T c.args.toList with
      | true, some xs => some (.call (T.md dst) g xs)
      | false, some xs => bitsOp (Q.bits g) xs
      | _, none => none
    | none => match trOpd T f, trOpds T c.args.toList with
      | some y, some xs => some (.callv (T.md dst) y xs)
      | _, _ => none
  | .builtin b => match b with
    | .len => match c.argTypes.toList, c.args.toList with
      | [t], [x] => match Q.und t with
        | some (.slice _) => match trOpd T x with | some y => some (.len y) | none => none
        | some .string => match trOpd T x with | some y => some (.lenS y) | none => none
        | some (.array n _) => some (.copy (.const (.int .i64 n)))
        | _ => none
      | _, _ => none
    | .append => match c.argTypes.toList, c.args.toList with
      | [t, u], [x, y] => match tyElemG Q t, Nat.beq u t, trOpd T x, trOpd T y with
        | some (e, sz, by'), true, some x', some y' => match tyZeroG Q e with
          | some z => match Nat.beq z.length sz with | true => some (.append sz by' x' y') | false => none
          | none => none
        | _, _, _, _ => none
      | _, _ => none
    | .copy => match c.argTypes.toList, c.args.toList with
      | [t, u], [x, y] => match tyElemG Q t, trOpd T x, trOpd T y with
        | some (_, sz, _), some x', some y' => some (.copyS sz x' y')
        | _, _, _ => none
      | _, _ => none
    | .max => match trOpds T c.args.toList with | some xs => mmOp xs true | none => none
    | .min => match trOpds T c.args.toList with | some xs => mmOp xs false | none => none
    | _ => none
  | _ => none
def trOpG (Q : Tab) (T : Tell) (dst : Option Nat) : Op → Option AOp
  | .move x => match trOpd T x with | some y => some (.copy y) | none => none
  | .assign x => match trOpd T x with | some y => some (.copy y) | none => none
  | .pick c a b => match trOpd T c, trOpd T a, trOpd T b with | some c', some a', some b' => some (.pick c' a' b') | _, _, _ => none
  | .alloc t => match tyZeroG Q t with | some z => some (.alloc z) | none => none
  | .box t x => match trOpd T x with | some y => some (.box y) | none => none
  | .build t parts => match tyZeroG Q t, Q.und t with
    | some z, some (.struct fields) => match trPlacesG Q fields.toList with
      | some places => match trParts T (places[·]?) parts.toList with | some ps => some (.build z ps) | none => none
      | none => none
    | some z, some (.array _ e) => match tySizeG Q e with
      | some sz => match trParts T (fun i => some (i * sz, sz)) parts.toList with | some ps => some (.build z ps) | none => none
      | none => none
    | _, _ => none
  | .buildSlice t len parts => match tyElemG Q t with
    | some (e, sz, _) => match tyZeroG Q e, trRows T parts.toList, Nat.ble (len * sz) 16777216 with
      | some z, some ps, true => match Nat.beq z.length sz with | true => some (.buildSlice sz len z ps) | false => none
      | _, _, _ => none
    | none => none
  | .load t a => match tyAggG Q t, tySizeG Q t, trOpd T a with | some g, some sz, some y => some (.load g sz y) | _, _, _ => none
  | .store t a x => match tySizeG Q t, trOpd T a, trOpd T x with | some sz, some y, some z => some (.store sz y z) | _, _, _ => none
  | .nilCheck x => match trOpd T x with | some y => some (.nilCheck y) | none => none
  | .binOp op t x y _ => match trOpd T x, trOpd T y with
    | some x', some y' => match binTyG Q t with
      | true => some (.bin op x' y')
      | false => match negOf op with
        | some neg => match boolTyG Q t with
          | true => some (.eqB neg x' y')
          | false => match Q.tags t with
            | some tags => some (.eqS neg tags x' y')
            | none => none
        | none => none
    | _, _ => none
  | .unOp op _ x => match trOpd T x with | some y => some (.un op y) | none => none
  | .convert s d x => match Q.und s, Q.und d, trOpd T x with
    | some (.int _), some (.int k), some y => some (.conv k y)
    | some (.int _), some (.float .f64), some y => some (.prim .i2f y)
    | _, _, _ => none
  | .makeFunc fn first captured => match fn, first.toList, trOpds T captured.toList with
    | .func f, [], some xs => some (.mkfn f xs)
    | _, _, _ => none
  | .makeSlice t l c => match tyElemG Q t with
    | some (e, sz, by') => match tyZeroG Q e, trOpd T l, trOpd T c with
      | some z, some l', some c' => match Nat.beq z.length sz with | true => some (.mkslice sz by' z l' c') | false => none
      | _, _, _ => none
    | none => none
  | .slice t x lo hi mx => match mx with
    | some _ => none
    | none =>
      match Q.und t with
      | some .string => match trOpd T x, trBound T lo, trBound T hi with
        | some x', some l', some h' => some (.sliceS x' l' h')
        | _, _, _ => none
      | some (.slice e) => match tySizeG Q e, trOpd T x, trBound T lo, trBound T hi with
        | some sz, some x', some l', some h' => some (.slice sz x' l' h')
        | _, _, _, _ => none
      | _ => none
  | .fieldAddr t x k => match Q.und t with
    | some (.struct fields) => match fields[k]? with
      | some f => match tySizeG Q f.type, trOpd T x with
        | some sz, some y => match Nat.beq sz 0 with | true => none | false => some (.fieldA f.offset y)
        | _, _ => none
      | none => none
    | _ => none
  | .field t x k => match Q.und t with
    | some (.struct fields) => match fields[k]? with
      | some f => match tyAggG Q f.type, tySizeG Q f.type, trOpd T x with
        | some g, some sz, some y => some (.field g f.offset sz y)
        | _, _, _ => none
      | none => none
    | _ => none
  | .indexAddr t x i => match tyElemG Q t, trOpd T x, trOpd T i with
    | some (_, sz, _), some x', some i' => some (.indexA sz x' i')
    | none, some x', some i' => match Q.und t with
      | some (.array n e) => match tySizeG Q e with
        | some sz => some (.indexP n sz x' i')
        | none => none
      | _ => none
    | _, _, _ => none
  | .index t x i => match Q.und t with
    | some (.array n e) => match tyAggG Q e, tySizeG Q e, trOpd T x, trOpd T i with
      | some g, some sz, some x', some i' => some (.indexV n g sz x' i')
      | _, _, _, _ => none
    | _ => none
  | .extract x i => match trOpd T x with | some y => some (.extract y i) | none => none
  | .makeMap _ r => match r with | none => some .mkmap | some _ => none
  | .lookup t x i ok => match Q.und t with
    | some (.map k e) => match eqTagG Q k, tyZeroVG Q e, trOpd T x, trOpd T i with
      | some tag, some z, some x', some i' => some (.lookup tag z ok x' i')
      | _, _, _, _ => none
    | _ => none
  | .insert t mp k x => match Q.und t with
    | some (.map kt _) => match eqTagG Q kt, trOpd T mp, trOpd T k, trOpd T x with
      | some tag, some m', some k', some x' => some (.insert tag m' k' x')
      | _, _, _, _ => none
    | _ => none
  | .mapUpdate t mp k x => match Q.und t with
    | some (.map kt _) => match eqTagG Q kt, trOpd T mp, trOpd T k, trOpd T x with
      | some tag, some m', some k', some x' => some (.insert tag m' k' x')
      | _, _, _, _ => none
    | _ => none
  | .call c => trCallG Q T dst c
  | _ => none
def trOperG (Q : Tab) (T : Tell) (nt : Nat) (ops : Array Oper) (o : Oper) : Option AOper :=
  let g : Option (Option (Opd × Bool)) := match o.guard with
    | none => some none
    | some (j, want) => match ops[j]? with
      | some oj => match oj.dst with
        | some d => match Nat.blt d nt with
          | true => some (some (match T.K d with | true => .per d | false => .reg d, want))
          | false => none
        | none => none
      | none => none
  match g, trOpG Q T o.dst o.op with
  | some g', some op => match o.dst with
    | none => some ⟨none, op, g', false, []⟩
    | some d => match Nat.blt d nt with
      | true => some ⟨some (T.K d, d), op, g', T.S (some d), []⟩
      | false => none
  | _, _ => none
def trOpersG (Q : Tab) (T : Tell) (nt : Nat) (ops : Array Oper) : List Oper → Option (List AOper)
  | [] => some []
  | o :: os => match trOperG Q T nt ops o, trOpersG Q T nt ops os with
    | some a, some as => some (a :: as)
    | _, _ => none
def trCodeG (Q : Tab) (T : Tell) (nt : Nat) : Code → Option AC
  | .skip => some .skip
  | .region _ ops draw => match trOpersG Q T nt ops ops.toList with
    | some as => match draw with
      | false => some (.region false as)
      | true => match regionOk ops (addClears (masks ops.toList []) as 0 as) with | true => some (.region true (addClears (masks ops.toList []) as 0 as)) | false => none
    | none => none
  | .seq a b => match trCodeG Q T nt a, trCodeG Q T nt b with | some x, some y => some (.seq x y) | _, _ => none
  | .cond c a b => match trOpd T c, trCodeG Q T nt a, trCodeG Q T nt b with | some c', some x, some y => some (.cond (T.isGone c) c' x y) | _, _, _ => none
  | .block id b => match trCodeG Q T nt b with | some x => some (.block id x) | none => none
  | .loop b => match trCodeG Q T nt b with | some x => some (.loop x) | none => none
  | .exit id => some (.exit id)
  | .ret => some .ret
  | _ => none
def trResG (Q : Tab) (T : Tell) : List ResultVar → Option (List ARes)
  | [] => some []
  | .tmp t :: rs => match T.K t, trResG Q T rs with | true, some xs => some (.tmp t :: xs) | _, _ => none
  | .cell a t :: rs => match T.K a, tyAggG Q t, tySizeG Q t, trResG Q T rs with | true, some g, some sz, some xs => some (.cell a g sz :: xs) | _, _, _, _ => none
def trFnG (Q : Tab) (T : Tell) (fn : Func) : Option AFn :=
  match fn.body with
  | some c => match trCodeG Q T fn.ntmps c, trResG Q T fn.results.toList with
    | some x, some rs => match keepsParams T (fn.params.size + fn.nfree) && Nat.ble (fn.params.size + fn.nfree) fn.ntmps with
      | true => some ⟨fn.params.size + fn.nfree, x, rs⟩
      | false => none
    | _, _ => none
  | none => none
section
variable (P : Program)
theorem tyAggG_of (t : TypeId) : tyAggG (Tab.of P) t = tyAgg P t := rfl
theorem tySizeG_of (t : TypeId) : tySizeG (Tab.of P) t = tySize P t := by
  show (match tiOf P t with | some i => some i.size | none => none) = _
  rw [tiOf, tySize]; cases P.info? t <;> rfl
theorem tyZeroG_of (t : TypeId) : tyZeroG (Tab.of P) t = tyZero P t := by
  show (match tiOf P t with | some i => (match i.zero with | some z => constCells z.cells.toList | none => none) | none => none) = _
  rw [tiOf, tyZero]; cases P.info? t <;> rfl
theorem tyZeroVG_of (t : TypeId) : tyZeroVG (Tab.of P) t = tyZeroV P t := by
  show (match tiOf P t with | some i => (match i.zero with | some z => zeroPV z | none => none) | none => none) = _
  rw [tiOf, tyZeroV]; cases P.info? t <;> rfl
theorem tyElemG_of (t : TypeId) : tyElemG (Tab.of P) t = tyElem P t := by
  rw [tyElemG, tyElem]
  show (match P.underlying t with | some (.slice e) => (match tiOf P e with | some i => (match Nat.beq i.size 0 || Nat.beq i.bytes 0 with | true => none | false => some (e, i.size, i.bytes)) | none => none) | _ => none) = _
  cases P.underlying t with
  | none => rfl
  | some d =>
    cases d <;> first
      | rfl
      | (rename_i e
         show (match tiOf P e with | some i => (match Nat.beq i.size 0 || Nat.beq i.bytes 0 with | true => none | false => some (e, i.size, i.bytes)) | none => none) = (match P.info? e with | some i => (match Nat.beq i.size 0 || Nat.beq i.bytes 0 with | true => none | false => some (e, i.size, i.bytes)) | none => none)
         rw [tiOf]; cases P.info? e <;> rfl)
theorem trPlacesG_of : ∀ fs, trPlacesG (Tab.of P) fs = trPlaces P fs
  | [] => rfl
  | f :: fs => by
    rw [trPlacesG, trPlaces, trPlacesG_of fs]
    show (match tiOf P f.type, trPlaces P fs with | some i, some ps => some ((f.offset, i.size) :: ps) | _, _ => none) = _
    rw [tiOf]; cases P.info? f.type <;> cases trPlaces P fs <;> rfl
theorem binTyG_of (t : TypeId) : binTyG (Tab.of P) t = binTy P t := rfl
theorem boolTyG_of (t : TypeId) : boolTyG (Tab.of P) t = boolTy P t := rfl
theorem eqTagG_of (t : TypeId) : eqTagG (Tab.of P) t = eqTag P t := rfl
theorem trCallG_of (T : Tell) (d : Option Nat) (c : Call) : trCallG (Tab.of P) T d c = trCall P T d c := by
  unfold trCallG trCall
  simp only [tyElemG_of, tyZeroG_of]
  rfl
theorem trOpG_of (T : Tell) (d : Option Nat) (o : Op) : trOpG (Tab.of P) T d o = trOp P T d o := by
  cases o <;> (unfold trOpG trOp; simp only [tyAggG_of, tySizeG_of, tyZeroG_of, tyZeroVG_of, tyElemG_of, trPlacesG_of, binTyG_of, boolTyG_of, eqTagG_of, trCallG_of]) <;> first | done | rfl
theorem trOperG_of (T : Tell) (nt : Nat) (ops : Array Oper) (o : Oper) : trOperG (Tab.of P) T nt ops o = trOper P T nt ops o := by
  unfold trOperG trOper; simp only [trOpG_of]; rfl
theorem trOpersG_of (T : Tell) (nt : Nat) (ops : Array Oper) : ∀ os, trOpersG (Tab.of P) T nt ops os = trOpers P T nt ops os
  | [] => rfl
  | o :: os => by rw [trOpersG, trOpers, trOperG_of, trOpersG_of T nt ops os]; rfl
theorem trCodeG_of (T : Tell) (nt : Nat) : ∀ c, trCodeG (Tab.of P) T nt c = trCode P T nt c := by
  intro c
  induction c <;> (simp only [trCodeG, trCode, trOpersG_of]) <;> first | done | rfl | (simp only [*]; done) | (simp only [*]; rfl)
theorem trResG_of (T : Tell) : ∀ rs, trResG (Tab.of P) T rs = trRes P T rs
  | [] => rfl
  | .tmp t :: rs => by rw [trResG, trRes, trResG_of T rs]; rfl
  | .cell a t :: rs => by rw [trResG, trRes, trResG_of T rs, tyAggG_of, tySizeG_of]; rfl
theorem trFnG_of (T : Tell) (fn : Func) : trFnG (Tab.of P) T fn = trFn P T fn := by
  unfold trFnG trFn; simp only [trCodeG_of, trResG_of]; rfl
end
def nthO {α : Type} : List (Option α) → Nat → Option α
  | [], _ => none
  | x :: l, n => match n with | 0 => x | n + 1 => nthO l n
def nthB : List Bool → Nat → Bool
  | [], _ => false
  | x :: l, n => match n with | 0 => x | n + 1 => nthB l n
theorem nthO_eq {α : Type} : ∀ (l : List (Option α)) n, nthO l n = (l[n]?).join
  | [], n => rfl
  | x :: l, 0 => by cases x <;> rfl
  | x :: l, n + 1 => by rw [nthO, nthO_eq l n]; rfl
theorem nthB_eq : ∀ (l : List Bool) n, nthB l n = (l[n]?).getD false
  | [], n => rfl
  | x :: l, 0 => rfl
  | x :: l, n + 1 => by rw [nthB, nthB_eq l n]; rfl
def cutAt {α : Type} (n : Nat) (f g : Nat → α) (t : Nat) : α := match Nat.blt t n with | true => f t | false => g t
theorem cutO {α : Type} {f : Nat → Option α} {n : Nat} {l : List (Option α)} (h : (List.range n).map f = l) : cutAt n (nthO l) f = f := by
  funext t
  subst h
  rw [cutAt]
  split
  · rename_i ht
    have ht : t < n := Nat.le_of_ble_eq_true ht
    rw [nthO_eq, List.getElem?_map, List.getElem?_range ht]; rfl
  · rfl
theorem cutB {f : Nat → Bool} {n : Nat} {l : List Bool} (h : (List.range n).map f = l) : cutAt n (nthB l) f = f := by
  funext t
  subst h
  rw [cutAt]
  split
  · rename_i ht
    have ht : t < n := Nat.le_of_ble_eq_true ht
    rw [nthB_eq, List.getElem?_map, List.getElem?_range ht]; rfl
  · rfl
def tagAt : List (Nat × List Nat) → (Nat → Option (List Nat)) → Nat → Option (List Nat)
  | [], g, t => g t
  | x :: l, g, t => match Nat.beq x.1 t with | true => some x.2 | false => tagAt l g t
theorem tagAt_eq {f : Nat → Option (List Nat)} : ∀ l : List (Nat × List Nat), l.map (fun x => f x.1) = l.map (fun x => some x.2) → tagAt l f = f
  | [], _ => rfl
  | x :: l, h => by
    rw [List.map_cons, List.map_cons, List.cons.injEq] at h
    funext t
    rw [tagAt, tagAt_eq l h.2]
    split
    · rename_i hb; rw [← Nat.eq_of_beq_eq_true hb, h.1]
    · rfl
def Tab.mk' (P : Program) (n k : Nat) (lU : List (Option TypeDesc)) (lI : List (Option TI)) (lT : List (Nat × List Nat)) (lB lS : List Bool) : Tab := ⟨cutAt n (nthO lU) P.underlying, cutAt n (nthO lI) (tiOf P), tagAt lT (structTags P), cutAt k (nthB lB) (trBody P), cutAt k (nthB lS) (isBits P)⟩
theorem tab_eq {P : Program} {n k : Nat} {lU : List (Option TypeDesc)} {lI : List (Option TI)} {lT : List (Nat × List Nat)} {lB lS : List Bool} (h1 : (List.range n).map P.underlying = lU) (h2 : (List.range n).map (tiOf P) = lI) (h3 : lT.map (fun x => structTags P x.1) = lT.map (fun x => some x.2)) (h4 : (List.range k).map (trBody P) = lB) (h5 : (List.range k).map (isBits P) = lS) : Tab.mk' P n k lU lI lT lB lS = Tab.of P := by
  rw [Tab.mk', cutO h1, cutO h2, tagAt_eq lT h3, cutB h4, cutB h5]; rfl
theorem trT {P : Program} {Q : Tab} (hQ : Q = Tab.of P) {T : Tell} {fn : Func} {F : AFn} (h : trFnG Q T fn = some F) : trFn P T fn = some F := by
  rw [← trFnG_of, ← hQ]; exact h
def fltO (os : List AOper) : List Nat → Option (List Nat)
  | [] => some []
  | k :: ks => match fltO os ks with
    | some r => match usedOps os k with | true => some r | false => some (k :: r)
    | none => none
def annO : List AOper → Option (List BOp)
  | [] => some []
  | [o] => some [.op o]
  | o :: o' :: os => match fltO (o' :: os) (slotsOf o), annO (o' :: os) with
    | some ks, some r => match ks with | [] => some (.op o :: r) | k :: ks => some (.op o :: .kill (k :: ks) :: r)
    | _, _ => none
def annAll : List (List AOper) → Option (List (List BOp))
  | [] => some []
  | os :: l => match annO os, annAll l with | some r, some rs => some (r :: rs) | _, _ => none
theorem fltO_eq (os : List AOper) : ∀ ks, fltO os ks = some (ks.filter fun k => !(usedOps os k))
  | [] => rfl
  | k :: ks => by rw [fltO, fltO_eq os ks, List.filter_cons]; cases usedOps os k <;> rfl
theorem annO_eq : ∀ os, annO os = some (annot os)
  | [] => rfl
  | [o] => rfl
  | o :: o' :: os => by
    rw [annO, fltO_eq, annO_eq (o' :: os), annot]
    cases (slotsOf o).filter fun k => !(usedOps (o' :: os) k) <;> rfl
theorem annAll_eq : ∀ l, annAll l = some (l.map annot)
  | [] => rfl
  | os :: l => by rw [annAll, annO_eq, annAll_eq l]; rfl
def AllR (P : AProg) (R : Nat → List AOper) : Nat → List (List BOp) → Prop
  | _, [] => True
  | i, bs :: l => match l with
    | [] => ∀ d st, EV P (.region d (R i)) st = regK (runB P bs { per := st.per, reg := [], H := st.H, ed := st.ed })
    | _ :: _ => (∀ d st, EV P (.region d (R i)) st = regK (runB P bs { per := st.per, reg := [], H := st.H, ed := st.ed })) ∧ AllR P R (i + 1) l
theorem allR_from {P : AProg} {R : Nat → List AOper} : ∀ (l : List (List AOper)) i, (∀ k, k < l.length → l[k]? = some (R (i + k))) → AllR P R i (l.map annot)
  | [], _, _ => trivial
  | os :: l, i, h => by
      have h0 : ∀ d st, EV P (.region d (R i)) st = regK (runB P (annot os) { per := st.per, reg := [], H := st.H, ed := st.ed }) := fun d st => by
        have := h 0 (by simp)
        simp only [List.getElem?_cons_zero, Nat.add_zero, Option.some.injEq] at this
        exact rgA (by rw [this]) d st
      have h1 := allR_from (P := P) l (i + 1) fun k hk => by
        have := h (k + 1) (by simp; omega)
        rw [List.getElem?_cons_succ] at this
        rw [this]; congr 2; omega
      cases l with
      | nil => exact h0
      | cons x l => exact ⟨h0, h1⟩
theorem allR {P : AProg} {c : AC} {R : Nat → List AOper} {L : List (List BOp)} (hR : R = regAt c) (hL : annAll (regs c) = some L) : AllR P R 0 L := by
  rw [annAll_eq] at hL
  cases hL
  exact allR_from _ 0 fun k hk => by
    subst hR
    rw [List.getElem?_eq_getElem hk, Nat.zero_add, regAt, List.getD_eq_getElem?_getD, List.getElem?_eq_getElem hk]; rfl
theorem rrOf {P : AProg} {c : AC} {R : Nat → List AOper} {L L' : List (List BOp)} (hR : R = regAt c) (hL : annAll (regs c) = some L) (hL' : L = L') {p : AProg → (Nat → List AOper) → Prop} (h : ∀ P R, AllR P R 0 L' = p P R) : p P R := h P R ▸ hL' ▸ allR hR hL
end Go.Av
end
