/- The evaluator of the machine's code that FnExactCaptured's proof uses, no condition. -/
import Derived.IntWalk
import Derived.Test.YtffiogaamojjeaaCapAv2
set_option linter.all false
section
namespace Go.Av
open Go
section
section
variable {P : AProg}
def loadR (agg : Bool) (sz off : Nat) : Bool → Option (List PV) → Option PV
  | true, some cs => takeCells agg sz (cs.drop off)
  | _, _ => none
def loadB (agg : Bool) (sz row off tot : Nat) : Option Blk → Option PV
  | some (.cells _ rows) => loadR agg sz off (decide (tot = rows.length)) rows[row]?
  | _ => none
theorem loadV_fp (agg : Bool) (sz : Nat) (cs : List PV) (off : Nat) (H : Heap) : loadV agg sz (.fp cs off) H = takeCells agg sz (cs.drop off) := rfl
theorem loadV_ptr (agg : Bool) (sz id row off tot : Nat) (H : Heap) : loadV agg sz (.ptr id row off tot) H = loadB agg sz row off tot H[id]? := by
  simp only [loadV, cellsAt]
  cases H[id]? with
  | none => rfl
  | some b =>
    cases b with
    | cells s rows =>
      simp only [loadB]
      have : (tot == rows.length) = decide (tot = rows.length) := by rw [Bool.eq_iff_iff]; simp
      rw [this]
      cases decide (tot = rows.length) <;> cases rows[row]? <;> rfl
    | map es => rfl
theorem take_one (sz : Nat) (c : PV) (cs : List PV) : takeCells false sz (c :: cs) = some c := rfl
theorem take_agg (sz : Nat) (cs : List PV) : takeCells true sz cs = if sz ≤ cs.length then some (.agg (cs.take sz)) else none := by
  rw [takeCells]; cases h : Nat.ble sz cs.length with
  | true => rw [if_pos (Nat.le_of_ble_eq_true h)]
  | false => rw [if_neg (fun h2 => by rw [Nat.ble_eq_true_of_le h2] at h; cases h)]
def idxK (sz : Nat) : Option (List PV) → Option PV
  | some r => if r.length = sz then some (.fp r 0) else none
  | none => none
def idxS (sz off len tot : Nat) (id : Nat) (n : Int) : Option Blk → Option PV
  | some (.cells s rows) => if s = sz ∧ tot = rows.length ∧ n < len ∧ off + len ≤ tot then some (.ptr id (off + n.toNat) 0 tot) else none
  | _ => none
theorem indexAV_fz (sz : Nat) (H : Heap) (rows : List (List PV)) (k : IntKind) (n : Int) : indexAV sz H (.fz rows) (.int k n) = if 0 ≤ n then idxK sz rows[n.toNat]? else none := by
  rw [indexAV]; cases rows[n.toNat]? <;> rfl
theorem indexAV_sl (sz : Nat) (H : Heap) (id off len tot : Nat) (k : IntKind) (n : Int) : indexAV sz H (.sl id off len tot) (.int k n) = if 0 ≤ n then idxS sz off len tot id n H[id]? else none := by
  rw [indexAV]; cases H[id]? with
  | none => rfl
  | some b => cases b <;> rfl
theorem idxS_cells (sz off len tot id : Nat) (n : Int) (s : Nat) (rows : List (List PV)) (h1 : s = sz) (h2 : tot = rows.length) (h3 : n < len) (h4 : off + len ≤ tot) : idxS sz off len tot id n (some (.cells s rows)) = some (.ptr id (off + n.toNat) 0 tot) := by
  rw [idxS, if_pos ⟨h1, h2, h3, h4⟩]
def callR (args : List PV) : Option PV → Option PV
  | some v => if ((refsL args).isEmpty || plainRes v) = true then some v else none
  | none => none
theorem callV_eq (H : Heap) (f : Nat) (args : List PV) : callV P H f args = callR args (EP P f (args.map (frz 8 H))) := by
  rw [callV]; cases EP P f (args.map (frz 8 H)) <;> rfl
theorem callvV_fn (H : Heap) (f : Nat) (caps args : List PV) : callvV P H (.fn f caps) args = callV P H f (args ++ caps) := rfl
theorem callR_some (args : List PV) (v : PV) : callR args (some v) = if ((refsL args).isEmpty || plainRes v) = true then some v else none := rfl
theorem callR_ite {p : Prop} [Decidable p] (args : List PV) (x y : Option PV) : callR args (if p then x else y) = if p then callR args x else callR args y := by by_cases h : p <;> simp only [h, if_true, if_false]
theorem loadB_cells (agg : Bool) (sz row off tot s : Nat) (rows : List (List PV)) : loadB agg sz row off tot (some (.cells s rows)) = loadR agg sz off (decide (tot = rows.length)) rows[row]? := rfl
theorem loadR_some (agg : Bool) (sz off : Nat) (cs : List PV) : loadR agg sz off true (some cs) = takeCells agg sz (cs.drop off) := rfl
theorem idxK_some (sz : Nat) (r : List PV) : idxK sz (some r) = if r.length = sz then some (.fp r 0) else none := rfl
theorem pickV_bool (t : Bool) (x y : PV) : pickV (.bool t) x y = some (if t = true then x else y) := rfl
theorem pickV_ite {p : Prop} [Decidable p] (a b x y : PV) : pickV (if p then a else b) x y = if p then pickV a x y else pickV b x y := by by_cases h : p <;> simp only [h, if_true, if_false]
theorem nilCheckV_ptr (a b c d : Nat) : nilCheckV (.ptr a b c d) = some (.ptr a b c d) := rfl
theorem nilCheckV_fp (a : List PV) (b : Nat) : nilCheckV (.fp a b) = some (.fp a b) := rfl
theorem eqBV_bool (neg p q : Bool) : eqBV neg (.bool p) (.bool q) = some (.bool (negB neg (p == q))) := rfl
theorem negB_t (b : Bool) : negB true b = !b := rfl
theorem negB_f (b : Bool) : negB false b = b := rfl
theorem primV_bits (n : Nat) : primV .fbits (.flt .f64 n) = some (.int .u64 n) := rfl
theorem primV_i2f (k : IntKind) (n : Int) : primV .i2f (.int k n) = some (.flt .f64 (FloatKind.f64.nearest n)) := rfl
theorem mmV_max (k k' : IntKind) (x y : Int) : mmV true (.int k x) (.int k' y) = some (.int k (if y > x then y else x)) := rfl
theorem mmV_min (k k' : IntKind) (x y : Int) : mmV false (.int k x) (.int k' y) = some (.int k (if y < x then y else x)) := rfl
theorem idxP_ptr (n sz a b c d : Nat) (k : IntKind) (j : Int) (h0 : 0 ≤ j) (h1 : j < n) : idxP n sz (.ptr a b c d) (.int k j) = some (.ptr a b (c + j.toNat * sz) d) := by
  have : (decide (0 ≤ j) && decide (j < (n : Int))) = true := by simp [h0, h1]
  simp only [idxP, this]
theorem convV_int (k k' : IntKind) (n : Int) : convV k (.int k' n) = some (.int k (k.wrap n)) := rfl
theorem fieldAV_ptr (o a b c d : Nat) : fieldAV o (.ptr a b c d) = some (.ptr a b (c + o) d) := rfl
theorem fieldAV_fp (o : Nat) (a : List PV) (b : Nat) : fieldAV o (.fp a b) = some (.fp a (b + o)) := rfl
theorem fieldV_agg (agg : Bool) (o sz : Nat) (cs : List PV) : fieldV agg o sz (.agg cs) = takeCells agg sz (cs.drop o) := rfl
theorem lenV_fz (rows : List (List PV)) : lenV (.fz rows) = some (.int .i64 rows.length) := rfl
theorem lenV_sl (a b c d : Nat) : lenV (.sl a b c d) = some (.int .i64 c) := rfl
theorem lenV_nils : lenV .nils = some (.int .i64 0) := rfl
theorem lenSV_str (s : ByteArray) : lenSV (.str s) = some (.int .i64 s.size) := rfl
theorem extractV_tup (i : Nat) (vs : List PV) : extractV i (.tup vs) = vs[i]? := rfl
section
variable (k : IntKind) (x y : Int)
theorem bin_add : Av.bin .add (.int k x) (.int k y) = some (.int k (k.wrap (x + y))) := by simp [Av.bin, binInt]
theorem bin_sub : Av.bin .sub (.int k x) (.int k y) = some (.int k (k.wrap (x - y))) := by simp [Av.bin, binInt]
theorem bin_mul : Av.bin .mul (.int k x) (.int k y) = some (.int k (k.wrap (x * y))) := by simp [Av.bin, binInt]
theorem bin_rem (h : y ≠ 0) : Av.bin .rem (.int k x) (.int k y) = some (.int k (x.tmod y)) := by simp [Av.bin, binInt, h]
theorem bin_quo (h : y ≠ 0) : Av.bin .quo (.int k x) (.int k y) = some (.int k (k.wrap (x.tdiv y))) := by simp [Av.bin, binInt, h]
theorem bin_eql : Av.bin .eql (.int k x) (.int k y) = some (.bool (decide (x = y))) := by simp [Av.bin, binInt]; rw [Bool.eq_iff_iff]; simp
theorem bin_neq : Av.bin .neq (.int k x) (.int k y) = some (.bool (!decide (x = y))) := by simp [Av.bin, binInt]; rw [Bool.eq_iff_iff]; simp
theorem bin_lss : Av.bin .lss (.int k x) (.int k y) = some (.bool (decide (x < y))) := by simp [Av.bin, binInt]
theorem bin_leq : Av.bin .leq (.int k x) (.int k y) = some (.bool (decide (x ≤ y))) := by simp [Av.bin, binInt]
theorem bin_gtr : Av.bin .gtr (.int k x) (.int k y) = some (.bool (decide (y < x))) := by simp [Av.bin, binInt]
theorem bin_geq : Av.bin .geq (.int k x) (.int k y) = some (.bool (decide (y ≤ x))) := by simp [Av.bin, binInt]
end
section
variable (k : FloatKind) (x y : Nat)
theorem bin_feql : Av.bin .eql (.flt k x) (.flt k y) = some (.bool (decide (k.format.order x y = some .eq))) := by simp [Av.bin, binFlt]; rw [Bool.eq_iff_iff]; simp
theorem bin_fneq : Av.bin .neq (.flt k x) (.flt k y) = some (.bool (!decide (k.format.order x y = some .eq))) := by simp [Av.bin, binFlt]; rw [Bool.eq_iff_iff]; simp [bne]
theorem bin_flss : Av.bin .lss (.flt k x) (.flt k y) = some (.bool (decide (k.format.order x y = some .lt))) := by simp [Av.bin, binFlt]; rw [Bool.eq_iff_iff]; simp
theorem bin_fgtr : Av.bin .gtr (.flt k x) (.flt k y) = some (.bool (decide (k.format.order x y = some .gt))) := by simp [Av.bin, binFlt]; rw [Bool.eq_iff_iff]; simp
end
theorem bin_seql (x y : ByteArray) : Av.bin .eql (.str x) (.str y) = some (.bool (decide (x.toList = y.toList))) := by simp [Av.bin, binStr]; rw [Bool.eq_iff_iff]; simp
theorem bin_sneq (x y : ByteArray) : Av.bin .neq (.str x) (.str y) = some (.bool (!decide (x.toList = y.toList))) := by simp [Av.bin, binStr]; rw [Bool.eq_iff_iff]; simp
theorem un_not (b : Bool) : Av.un .not (.bool b) = some (.bool !b) := rfl
theorem un_neg (k : IntKind) (n : Int) : Av.un .neg (.int k n) = some (.int k (k.wrap (0 - n))) := rfl
theorem cellsOf_agg (cs : List PV) : cellsOf (.agg cs) = cs := rfl
theorem cellsOf_int (k : IntKind) (n : Int) : cellsOf (.int k n) = [.int k n] := rfl
theorem cellsOf_bool (b : Bool) : cellsOf (.bool b) = [.bool b] := rfl
theorem cellsOf_str (s : ByteArray) : cellsOf (.str s) = [.str s] := rfl
theorem cellsOf_flt (k : FloatKind) (n : Nat) : cellsOf (.flt k n) = [.flt k n] := rfl
theorem cellsOf_fz (r : List (List PV)) : cellsOf (.fz r) = [.fz r] := rfl
theorem cellsOf_fp (r : List PV) (o : Nat) : cellsOf (.fp r o) = [.fp r o] := rfl
theorem cellsOf_sl (a b c d : Nat) : cellsOf (.sl a b c d) = [.sl a b c d] := rfl
theorem cellsOf_ptr (a b c d : Nat) : cellsOf (.ptr a b c d) = [.ptr a b c d] := rfl
theorem cellsOf_nils : cellsOf .nils = [.nils] := rfl
theorem cellsOf_nilm : cellsOf .nilm = [.nilm] := rfl
theorem cellsOf_nilf : cellsOf .nilf = [.nilf] := rfl
theorem cellsOf_nilp : cellsOf .nilp = [.nilp] := rfl
theorem cellsOf_mp (a : Nat) : cellsOf (.mp a) = [.mp a] := rfl
theorem cellsOf_fm (a : List (PV × PV)) : cellsOf (.fm a) = [.fm a] := rfl
theorem cellsOf_fn (f : Nat) (c : List PV) : cellsOf (.fn f c) = [.fn f c] := rfl
theorem isLeaf_int (k : IntKind) (n : Int) : isLeaf (.int k n) = true := rfl
theorem isLeaf_bool (b : Bool) : isLeaf (.bool b) = true := rfl
theorem isLeaf_str (s : ByteArray) : isLeaf (.str s) = true := rfl
theorem isLeaf_flt (k : FloatKind) (n : Nat) : isLeaf (.flt k n) = true := rfl
theorem isLeaf_fz (r : List (List PV)) : isLeaf (.fz r) = true := rfl
theorem isLeaf_fp (r : List PV) (o : Nat) : isLeaf (.fp r o) = true := rfl
theorem isLeaf_sl (a b c d : Nat) : isLeaf (.sl a b c d) = true := rfl
theorem isLeaf_ptr (a b c d : Nat) : isLeaf (.ptr a b c d) = true := rfl
theorem isLeaf_nils : isLeaf .nils = true := rfl
theorem isLeaf_nilm : isLeaf .nilm = true := rfl
theorem isLeaf_nilf : isLeaf .nilf = true := rfl
theorem isLeaf_nilp : isLeaf .nilp = true := rfl
theorem isLeaf_mp (a : Nat) : isLeaf (.mp a) = true := rfl
theorem isLeaf_fm (a : List (PV × PV)) : isLeaf (.fm a) = true := rfl
theorem isLeaf_fn (f : Nat) (c : List PV) : isLeaf (.fn f c) = true := rfl
def endR (H : Heap) : Option (List PV) → Option PV
  | some vs => some (frz 8 H (resVal vs))
  | none => none
theorem endR_some (H : Heap) (vs : List PV) : endR H (some vs) = some (frz 8 H (resVal vs)) := rfl
theorem endPure_ret (F : AFn) (st : St) : endPure F (some (.ret, st)) = endR st.H (results st F.res) := by simp only [endPure]; cases results st F.res <;> rfl
theorem endPure_normal (F : AFn) (st : St) : endPure F (some (.normal, st)) = endR st.H (results st F.res) := by simp only [endPure]; cases results st F.res <;> rfl
def endP (rs : List ARes) : Option (AExit × St) → Option PV
  | some (.normal, st) => endR st.H (Go.Av.results st rs)
  | some (.ret, st) => endR st.H (Go.Av.results st rs)
  | _ => none
theorem endP_ret (rs : List ARes) (st : St) : endP rs (some (.ret, st)) = endR st.H (Go.Av.results st rs) := rfl
theorem endP_normal (rs : List ARes) (st : St) : endP rs (some (.normal, st)) = endR st.H (Go.Av.results st rs) := rfl
theorem endP_ite {p : Prop} [Decidable p] (rs : List ARes) (x y : Option (AExit × St)) : endP rs (if p then x else y) = if p then endP rs x else endP rs y := by by_cases h : p <;> simp only [h, if_true, if_false]
theorem run_P {f : Nat} {args : List PV} {F : AFn} (hf : P.fn f = some F) (hn : F.np = args.length) : EP P f args = endP F.res (EV P F.code { per := params 0 args, reg := [], H := [], ed := [] }) := by
  rw [EP_of hf hn]
  cases EV P F.code { per := params 0 args, reg := [], H := [], ed := [] } with
  | none => rfl
  | some r =>
    obtain ⟨e, st⟩ := r
    cases e with
    | normal => exact endPure_normal F st
    | ret => exact endPure_ret F st
    | exit i => rfl
def resC : Option PV → Option (List PV) → Option (List PV)
  | some v, some vs => some (v :: vs)
  | _, _ => none
theorem resC_some (v : PV) (vs : List PV) : resC (some v) (some vs) = some (v :: vs) := rfl
theorem results_tmp (st : St) (n : Nat) (rs : List ARes) : Go.Av.results st (.tmp n :: rs) = resC (some (st.per.get n)) (Go.Av.results st rs) := by rw [results_cons]; simp only [ARes.get]; cases Go.Av.results st rs <;> rfl
theorem results_cell (st : St) (n : Nat) (agg : Bool) (sz : Nat) (rs : List ARes) : Go.Av.results st (.cell n agg sz :: rs) = resC (loadV agg sz (st.per.get n) st.H) (Go.Av.results st rs) := by
  rw [results_cons]; simp only [ARes.get, loadV]
  cases cellsAt st.H (st.per.get n) with
  | none => rfl
  | some cs => dsimp only; cases takeCells agg sz cs <;> cases Go.Av.results st rs <;> rfl
def endSR (n : Nat) (H : Heap) (ed : Edges) : Option (List PV) → Option (PV × Heap × Edges)
  | some vs => some (resVal vs, (trim n vs H ed).1, (trim n vs H ed).2)
  | none => none
theorem endSR_some (n : Nat) (H : Heap) (ed : Edges) (vs : List PV) : endSR n H ed (some vs) = some (resVal vs, (trim n vs H ed).1, (trim n vs H ed).2) := rfl
theorem endShared_ret (n : Nat) (F : AFn) (st : St) : endShared n F (some (.ret, st)) = endSR n st.H st.ed (results st F.res) := by simp only [endShared]; cases results st F.res <;> rfl
theorem endShared_normal (n : Nat) (F : AFn) (st : St) : endShared n F (some (.normal, st)) = endSR n st.H st.ed (results st F.res) := by simp only [endShared]; cases results st F.res <;> rfl
def endS (n : Nat) (rs : List ARes) : Option (AExit × St) → Option (PV × Heap × Edges)
  | some (.normal, st) => endSR n st.H st.ed (Go.Av.results st rs)
  | some (.ret, st) => endSR n st.H st.ed (Go.Av.results st rs)
  | _ => none
theorem endS_ret (n : Nat) (rs : List ARes) (st : St) : endS n rs (some (.ret, st)) = endSR n st.H st.ed (Go.Av.results st rs) := rfl
theorem endS_normal (n : Nat) (rs : List ARes) (st : St) : endS n rs (some (.normal, st)) = endSR n st.H st.ed (Go.Av.results st rs) := rfl
theorem endS_ite {p : Prop} [Decidable p] (n : Nat) (rs : List ARes) (x y : Option (AExit × St)) : endS n rs (if p then x else y) = if p then endS n rs x else endS n rs y := by by_cases h : p <;> simp only [h, if_true, if_false]
theorem run_S {f : Nat} {args : List PV} {H : Heap} {F : AFn} (hf : P.fn f = some F) (hn : F.np = args.length) : ES P f args H = endS H.length F.res (EV P F.code { per := params 0 args, reg := [], H := H, ed := [] }) := by
  rw [ES_of hf hn]
  cases EV P F.code { per := params 0 args, reg := [], H := H, ed := [] } with
  | none => rfl
  | some r =>
    obtain ⟨e, st⟩ := r
    cases e with
    | normal => exact endShared_normal _ F st
    | ret => exact endShared_ret _ F st
    | exit i => rfl
theorem resVal_one (v : PV) : resVal [v] = v := rfl
theorem resVal_nil : resVal [] = .tup [] := rfl
theorem resVal_two (v w : PV) (l : List PV) : resVal (v :: w :: l) = .tup (v :: w :: l) := rfl
theorem plain_bool (b : Bool) : plainRes (.bool b) = true := rfl
theorem plain_int (k : IntKind) (b : Int) : plainRes (.int k b) = true := rfl
theorem plain_str (b : ByteArray) : plainRes (.str b) = true := rfl
theorem plain_flt (k : FloatKind) (b : Nat) : plainRes (.flt k b) = true := rfl
end
end
section
section
variable {α : Type} [Inhabited α]
theorem idx_map (sz : Nat) (H : Heap) (f : α → List PV) (l : List α) (k : IntKind) (i : Int) (h0 : 0 ≤ i) (h : i < l.length) : indexAV sz H (.fz (l.map f)) (.int k i) = if (f (nth l i)).length = sz then some (.fp (f (nth l i)) 0) else none := by
  rw [indexAV_fz, if_pos h0, List.getElem?_map, nth_some h0 h]; rfl
theorem idx_sl (sz : Nat) (H : Heap) (id off len tot : Nat) (k : IntKind) (n : Int) (h : 0 ≤ n) : indexAV sz H (.sl id off len tot) (.int k n) = idxS sz off len tot id n H[id]? := by rw [indexAV_sl, if_pos h]
end
end
section
section
variable {P : AProg}
theorem loop_ind {body : AC} {σ : Type} (S : σ → St) (ok : σ → Prop) (μ : σ → Nat) (Q : σ → AExit × St → Prop)
    (h : ∀ a, ok a → (∃ r, EV P body (S a) = some r ∧ r.1 ≠ .normal ∧ Q a r) ∨ (∃ a' st', ok a' ∧ μ a' < μ a ∧ EV P body (S a) = some (.normal, st') ∧ (S a).next st' = S a' ∧ ∀ r, Q a' r → Q a r)) :
    ∀ a, ok a → ∃ r, EV P (.loop body) (S a) = some r ∧ Q a r := by
  suffices hs : ∀ n a, ok a → μ a ≤ n → ∃ r, EV P (.loop body) (S a) = some r ∧ Q a r from fun a ha => hs (μ a) a ha (Nat.le_refl _)
  intro n
  induction n with
  | zero =>
    intro a ha hn
    rcases h a ha with ⟨r, he, hr, hq⟩ | ⟨a', st', _, hl, _⟩
    · refine ⟨r, ?_, hq⟩
      rw [EV_loop, he]; obtain ⟨e, s⟩ := r; cases e <;> first | rfl | exact absurd rfl hr
    · omega
  | succ n ih =>
    intro a ha hn
    rcases h a ha with ⟨r, he, hr, hq⟩ | ⟨a', st', ha', hl, he, hs, hq⟩
    · refine ⟨r, ?_, hq⟩
      rw [EV_loop, he]; obtain ⟨e, s⟩ := r; cases e <;> first | rfl | exact absurd rfl hr
    · obtain ⟨r, hr, hqr⟩ := ih a' ha' (by omega)
      refine ⟨r, ?_, hq r hqr⟩
      rw [EV_loop, he]; show EV P (.loop body) ((S a).next st') = _; rw [hs, hr]
theorem loop_fun {body : AC} {σ : Type} (S : σ → St) (ok : σ → Prop) (μ : σ → Nat) (R : σ → AExit × St)
    (h : ∀ a, ok a → (EV P body (S a) = some (R a) ∧ (R a).1 ≠ .normal) ∨ (∃ a' st', ok a' ∧ μ a' < μ a ∧ EV P body (S a) = some (.normal, st') ∧ (S a).next st' = S a' ∧ R a' = R a)) :
    ∀ a, ok a → EV P (.loop body) (S a) = some (R a) := by
  intro a ha
  obtain ⟨r, hr, hq⟩ := loop_ind S ok μ (fun a r => r = R a) (fun a ha => by
    rcases h a ha with ⟨he, hr⟩ | ⟨a', st', ha', hl, he, hs, hq⟩
    · exact .inl ⟨_, he, hr, rfl⟩
    · exact .inr ⟨a', st', ha', hl, he, hs, fun r h => by rw [h, hq]⟩) a ha
  rw [hr, hq]
end
theorem trim_bare (n : Nat) (roots : List PV) (H : Heap) (ed : Edges) (h1 : bare n (refsL roots) = true) (h2 : ed.all (fun e => decide (n ≤ e.1) || decide (e.2 < n)) = true) : trim n roots H ed = (H.take n, ed.filter fun e => decide (e.2 < n)) := by
  rw [trim, h1, h2]; rfl
theorem wrap64 {x : Int} (h1 : -9223372036854775808 ≤ x) (h2 : x < 9223372036854775808) : IntKind.i64.wrap x = x := by rw [IntKind.wrap_i64]; omega
section
open Classical
noncomputable def seekN (p : Int → Prop) : Nat → Int → Option Int
  | 0, _ => none
  | m + 1, i => if p i then some i else seekN p m (i + 1)
noncomputable def seek (p : Int → Prop) (i n : Int) : Option Int := seekN p (n - i).toNat i
theorem seek_end (p : Int → Prop) {i n : Int} (h : n ≤ i) : seek p i n = none := by
  rw [seek, show (n - i).toNat = 0 by omega]; rfl
theorem seek_hit {p : Int → Prop} {i n : Int} (h : i < n) (hp : p i) : seek p i n = some i := by
  rw [seek, show (n - i).toNat = (n - i - 1).toNat + 1 by omega, seekN, if_pos hp]
theorem seek_miss {p : Int → Prop} {i n : Int} (h : i < n) (hp : ¬p i) : seek p i n = seek p (i + 1) n := by
  rw [seek, show (n - i).toNat = (n - (i + 1)).toNat + 1 by omega, seekN, if_neg hp, seek]
theorem seek_none {p : Int → Prop} {i n : Int} : seek p i n = none ↔ ∀ j, i ≤ j → j < n → ¬p j := by
  generalize hm : (n - i).toNat = m
  induction m generalizing i with
  | zero => exact ⟨fun _ j h1 h2 => by omega, fun _ => seek_end p (by omega)⟩
  | succ m ih =>
    by_cases hp : p i
    · rw [seek_hit (by omega) hp]
      exact ⟨fun h => (by cases h), fun h => absurd hp (h i (Int.le_refl _) (by omega))⟩
    · rw [seek_miss (by omega) hp, ih (by omega)]
      exact ⟨fun h j h1 h2 => if e : j = i then e ▸ hp else h j (by omega) h2, fun h j h1 h2 => h j (by omega) h2⟩
theorem seek_some {p : Int → Prop} {i n j : Int} : seek p i n = some j ↔ i ≤ j ∧ j < n ∧ p j ∧ ∀ k, i ≤ k → k < j → ¬p k := by
  generalize hm : (n - i).toNat = m
  induction m generalizing i with
  | zero => rw [seek_end p (by omega)]; exact ⟨fun h => (by cases h), fun h => by omega⟩
  | succ m ih =>
    by_cases hp : p i
    · rw [seek_hit (by omega) hp]
      constructor
      · intro h; cases h; exact ⟨Int.le_refl _, by omega, hp, fun k h1 h2 => by omega⟩
      · rintro ⟨h1, h2, h3, h4⟩
        by_cases e : i = j
        · rw [e]
        · exact absurd hp (h4 i (Int.le_refl _) (by omega))
    · rw [seek_miss (by omega) hp, ih (by omega)]
      constructor
      · rintro ⟨h1, h2, h3, h4⟩
        exact ⟨by omega, h2, h3, fun k h5 h6 => if e : k = i then e ▸ hp else h4 k (by omega) h6⟩
      · rintro ⟨h1, h2, h3, h4⟩
        have : j ≠ i := fun e => hp (e ▸ h3)
        exact ⟨by omega, h2, h3, fun k h5 h6 => h4 k (by omega) h6⟩
theorem seek_congr {p q : Int → Prop} {i n : Int} (h : ∀ j, i ≤ j → j < n → (p j ↔ q j)) : seek p i n = seek q i n := by
  cases hq : seek q i n with
  | none => exact seek_none.2 fun j h1 h2 hp => seek_none.1 hq j h1 h2 ((h j h1 h2).1 hp)
  | some j =>
    obtain ⟨h1, h2, h3, h4⟩ := seek_some.1 hq
    exact seek_some.2 ⟨h1, h2, (h j h1 h2).2 h3, fun k h5 h6 hp => h4 k h5 h6 ((h k h5 (by omega)).1 hp)⟩
theorem loop_search {P : AProg} {body : AC} (S : Int → St) (bad : Int → Prop) (E : Int → AExit × St) (F : AExit × St) (lo n : Int)
    (hstep : ∀ i, lo ≤ i → i < n → ¬bad i → ∃ st', EV P body (S i) = some (.normal, st') ∧ (S i).next st' = S (i + 1))
    (hbad : ∀ i, lo ≤ i → i < n → bad i → EV P body (S i) = some (E i) ∧ (E i).1 ≠ .normal)
    (hend : ∀ i, lo ≤ i → i = n → EV P body (S i) = some F ∧ F.1 ≠ .normal) (i : Int) (h1 : lo ≤ i) (h2 : i ≤ n) :
    EV P (.loop body) (S i) = some (match seek bad i n with | some j => E j | none => F) := by
  refine loop_fun S (fun i => lo ≤ i ∧ i ≤ n) (fun i => (n - i).toNat) (fun i => match seek bad i n with | some j => E j | none => F) ?_ i ⟨h1, h2⟩
  rintro i ⟨h1, h2⟩
  by_cases hn : i = n
  · left
    rw [seek_end bad (by omega)]
    exact hend i h1 hn
  · by_cases hp : bad i
    · left
      rw [seek_hit (by omega) hp]
      exact hbad i h1 (by omega) hp
    · right
      obtain ⟨st', h3, h4⟩ := hstep i h1 (by omega) hp
      exact ⟨i + 1, st', ⟨by omega, by omega⟩, by omega, h3, h4, by rw [seek_miss (by omega) hp]⟩
end
end
section
section
variable {P : AProg}
def stoK : Option (Heap × Edges) → Option (PV × Heap × Edges)
  | some (H, ed) => some (.und, H, ed)
  | none => none
theorem stoK_some (H : Heap) (ed : Edges) : stoK (some (H, ed)) = some (.und, H, ed) := rfl
theorem e_store (sz : Nat) (a x : Opd) (st : St) : evOp P.glob (CL P) st (.store sz a x) = stoK (storeAt st.H sz (a.get P.glob st) (x.get P.glob st)) := by
  simp only [evOp]; cases storeAt st.H sz (a.get P.glob st) (x.get P.glob st) <;> rfl
def stR (H : Heap) (id row off sz s : Nat) (rows : List (List PV)) (x : List PV) : Bool → Option (List PV) → Option (Heap × Edges)
  | true, some cs => if x.length = sz ∧ off + sz ≤ cs.length ∧ x.all isLeaf = true then some (H.set id (.cells s (rows.set row (cs.take off ++ x ++ cs.drop (off + sz)))), edgesTo id x) else none
  | _, _ => none
def stB (H : Heap) (id row off sz tot : Nat) (x : List PV) : Option Blk → Option (Heap × Edges)
  | some (.cells s rows) => stR H id row off sz s rows x (decide (tot = rows.length)) rows[row]?
  | _ => none
theorem stB_cells (H : Heap) (id row off sz tot : Nat) (x : List PV) (s : Nat) (rows : List (List PV)) : stB H id row off sz tot x (some (.cells s rows)) = stR H id row off sz s rows x (decide (tot = rows.length)) rows[row]? := rfl
theorem stR_some (H : Heap) (id row off sz s : Nat) (rows : List (List PV)) (x cs : List PV) : stR H id row off sz s rows x true (some cs) = if x.length = sz ∧ off + sz ≤ cs.length ∧ x.all isLeaf = true then some (H.set id (.cells s (rows.set row (cs.take off ++ x ++ cs.drop (off + sz)))), edgesTo id x) else none := rfl
theorem storeAt_ptr (H : Heap) (sz id row off tot : Nat) (x : PV) : storeAt H sz (.ptr id row off tot) x = stB H id row off sz tot (cellsOf x) H[id]? := by
  simp only [storeAt]
  cases H[id]? with
  | none => rfl
  | some b =>
    cases b with
    | map es => rfl
    | cells s rows =>
      rw [stB_cells]
      have : (tot == rows.length) = decide (tot = rows.length) := by rw [Bool.eq_iff_iff]; simp
      simp only [this]
      cases decide (tot = rows.length) with
      | false => cases rows[row]? <;> rfl
      | true =>
        cases rows[row]? with
        | none => rfl
        | some cs =>
          rw [stR_some]
          have : ((cellsOf x).length == sz && Nat.ble (off + sz) cs.length && (cellsOf x).all isLeaf) = decide ((cellsOf x).length = sz ∧ off + sz ≤ cs.length ∧ (cellsOf x).all isLeaf = true) := by
            rw [Bool.eq_iff_iff]; simp [and_assoc]
          simp only [this]
          by_cases h : (cellsOf x).length = sz ∧ off + sz ≤ cs.length ∧ (cellsOf x).all isLeaf = true
          · rw [decide_eq_true h, if_pos h]
          · rw [decide_eq_false h, if_neg h]
def boxK (H : Heap) (cs : List PV) : Option (PV × Heap × Edges) := if cs.all isLeaf = true then some (.ptr H.length 0 0 1, H ++ [.cells cs.length [cs]], []) else none
theorem e_box (x : Opd) (st : St) : evOp P.glob (CL P) st (.box x) = boxK st.H (cellsOf (x.get P.glob st)) := by
  simp only [evOp, boxK]; cases (cellsOf (x.get P.glob st)).all isLeaf <;> rfl
theorem e_alloc (cells : List PV) (st : St) : evOp P.glob (CL P) st (.alloc cells) = some (.ptr st.H.length 0 0 1, st.H ++ [.cells cells.length [cells]], []) := rfl
def mksK (sz bytes : Nat) (zero : List PV) (H : Heap) : PV → PV → Option (PV × Heap × Edges)
  | .int .i64 n, .int .i64 c => if 0 ≤ n ∧ n = c ∧ n * bytes ≤ 35184372088832 then some (.sl H.length 0 n.toNat n.toNat, H ++ [.cells sz (List.replicate n.toNat zero)], []) else none
  | _, _ => none
theorem mksK_int (sz bytes : Nat) (zero : List PV) (H : Heap) (n : Int) (h1 : 0 ≤ n) (h2 : n * bytes ≤ 35184372088832) : mksK sz bytes zero H (.int .i64 n) (.int .i64 n) = some (.sl H.length 0 n.toNat n.toNat, H ++ [.cells sz (List.replicate n.toNat zero)], []) := by
  rw [mksK, if_pos ⟨h1, rfl, h2⟩]
theorem e_mkslice (sz bytes : Nat) (zero : List PV) (a b : Opd) (st : St) : evOp P.glob (CL P) st (.mkslice sz bytes zero a b) = mksK sz bytes zero st.H (a.get P.glob st) (b.get P.glob st) := by
  simp only [evOp]
  cases a.get P.glob st with
  | int k n =>
    cases b.get P.glob st with
    | int k' c =>
      cases k <;> cases k' <;> first | rfl | skip
      rw [mksK]
      have : (decide (0 ≤ n) && decide (n = c) && decide (n * bytes ≤ 35184372088832)) = decide (0 ≤ n ∧ n = c ∧ n * bytes ≤ 35184372088832) := by rw [Bool.eq_iff_iff]; simp [and_assoc]
      simp only [this]
      by_cases h : 0 ≤ n ∧ n = c ∧ n * bytes ≤ 35184372088832
      · rw [decide_eq_true h, if_pos h]
      · rw [decide_eq_false h, if_neg h]
    | _ => cases k <;> rfl
  | _ => rfl
theorem eq_f (b : Bool) : (b = false) = ¬(b = true) := by cases b <;> simp
theorem not_t' (b : Bool) : ((!b) = true) = ¬(b = true) := by cases b <;> simp
theorem fillRow_nil (cs : List PV) : fillRow cs [] = some cs := rfl
theorem fillRow_cons (cs : List PV) (off : Nat) (new : List PV) (ps : List (Nat × List PV)) : fillRow cs ((off, new) :: ps) = if off + new.length ≤ cs.length ∧ new.all isLeaf = true then fillRow (cs.take off ++ new ++ cs.drop (off + new.length)) ps else none := by
  rw [fillRow]
  have : (Nat.ble (off + new.length) cs.length && new.all isLeaf) = decide (off + new.length ≤ cs.length ∧ new.all isLeaf = true) := by rw [Bool.eq_iff_iff]; simp
  rw [this]
  by_cases h : off + new.length ≤ cs.length ∧ new.all isLeaf = true
  · rw [decide_eq_true h, if_pos h]
  · rw [decide_eq_false h, if_neg h]
def buildK : Bool → Option (List PV) → Option PV
  | true, some cs => some (.agg cs)
  | _, _ => none
theorem buildK_some (cs : List PV) : buildK true (some cs) = some (.agg cs) := rfl
theorem buildV_eq (zero : List PV) (parts : List (Nat × Nat × PV)) : buildV zero parts = buildK (parts.all fun p => decide ((cellsOf p.2.2).length = p.2.1)) (fillRow zero (parts.map fun p => (p.1, cellsOf p.2.2))) := by
  have : (parts.all fun p => (cellsOf p.2.2).length == p.2.1) = parts.all fun p => decide ((cellsOf p.2.2).length = p.2.1) := by
    congr 1
  rw [buildV, this]
  cases parts.all fun p => decide ((cellsOf p.2.2).length = p.2.1) with
  | false => cases fillRow zero (parts.map fun p => (p.1, cellsOf p.2.2)) <;> rfl
  | true => cases fillRow zero (parts.map fun p => (p.1, cellsOf p.2.2)) <;> rfl
section
variable (H l : Heap)
theorem app_get0 : (H ++ l)[H.length]? = l[0]? := by rw [List.getElem?_append_right (Nat.le_refl _), Nat.sub_self]
theorem app_get (k : Nat) : (H ++ l)[H.length + k]? = l[k]? := by rw [List.getElem?_append_right (by omega)]; congr 1; omega
theorem app_old {i : Nat} {b : Blk} (h : H[i]? = some b) : (H ++ l)[i]? = some b := by
  have : i < H.length := by rcases Nat.lt_or_ge i H.length with h1 | h1; exact h1; rw [List.getElem?_eq_none h1] at h; cases h
  rw [List.getElem?_append_left this, h]
theorem app_set0 (b : Blk) : (H ++ l).set H.length b = H ++ l.set 0 b := by rw [List.set_append_right _ _ (Nat.le_refl _), Nat.sub_self]
theorem app_set (k : Nat) (b : Blk) : (H ++ l).set (H.length + k) b = H ++ l.set k b := by rw [List.set_append_right _ _ (by omega)]; congr 2; omega
end
theorem some_bool {b : Bool} {p : Prop} [Decidable p] (h : b = true ↔ p) : (some (PV.bool b) : Option PV) = some (.bool (decide p)) := by
  congr 2; rw [Bool.eq_iff_iff, decide_eq_true_iff]; exact h
theorem trim_all (n : Nat) (H : Heap) (roots : List PV) (h : H.length ≤ n) : trim n roots H [] = (H, []) := by
  rw [trim]; cases bare n (refsL roots) && ([] : Edges).all _ <;> simp [List.take_of_length_le h]
end
end
section
section
variable {P : AProg}
def iter {σ : Type} (g : Int → σ → σ) : Nat → Int → σ → σ
  | 0, _, a => a
  | m + 1, i, a => iter g m (i + 1) (g i a)
theorem loop_iter {body : AC} {σ : Type} (S : Int → σ → St) (g : Int → σ → σ) (ok : Int → σ → Prop) (F : σ → AExit × St) (lo n : Int)
    (hstep : ∀ i a, lo ≤ i → i < n → ok i a → (∃ st', EV P body (S i a) = some (.normal, st') ∧ (S i a).next st' = S (i + 1) (g i a)) ∧ ok (i + 1) (g i a))
    (hend : ∀ i a, lo ≤ i → i = n → ok i a → EV P body (S i a) = some (F a) ∧ (F a).1 ≠ .normal) :
    ∀ i a, lo ≤ i → i ≤ n → ok i a → EV P (.loop body) (S i a) = some (F (iter g (n - i).toNat i a)) ∧ ok n (iter g (n - i).toNat i a) := by
  intro i a h1 h2 h3
  refine ⟨loop_fun (fun x : Int × σ => S x.1 x.2) (fun x => lo ≤ x.1 ∧ x.1 ≤ n ∧ ok x.1 x.2) (fun x => (n - x.1).toNat) (fun x => F (iter g (n - x.1).toNat x.1 x.2)) ?_ (i, a) ⟨h1, h2, h3⟩, ?_⟩
  · rintro ⟨i, a⟩ ⟨h1, h2, h3⟩
    dsimp only at h1 h2 h3 ⊢
    by_cases hn : i = n
    · left
      rw [show (n - i).toNat = 0 by omega]
      exact hend i a h1 hn h3
    · right
      obtain ⟨⟨st', h4, h5⟩, h6⟩ := hstep i a h1 (by omega) h3
      refine ⟨(i + 1, g i a), st', ⟨by dsimp only; omega, by dsimp only; omega, h6⟩, by dsimp only; omega, h4, h5, ?_⟩
      dsimp only
      rw [show (n - i).toNat = (n - (i + 1)).toNat + 1 by omega]; rfl
  · generalize hm : (n - i).toNat = m
    induction m generalizing i a with
    | zero => have : i = n := by omega
              subst this; exact h3
    | succ m ih =>
      exact ih (i + 1) (g i a) (by omega) (by omega) (hstep i a h1 (by omega) h3).2 (by omega)
def iterx {σ ρ : Type} (g : Int → σ → σ ⊕ ρ) : Nat → Int → σ → σ ⊕ ρ
  | 0, _, a => .inl a
  | m + 1, i, a => match g i a with
    | .inl a' => iterx g m (i + 1) a'
    | .inr r => .inr r
end
section
variable {α : Type} [Inhabited α]
theorem nth_set {l : List α} {i j : Int} {v : α} (h0 : 0 ≤ i) (h1 : i < l.length) (h2 : 0 ≤ j) : nth (l.set i.toNat v) j = if i = j then v else nth l j := by
  simp only [nth, List.getD, List.getElem?_set]
  by_cases h : i = j
  · subst h
    have : i.toNat < l.length := by omega
    simp [this]
  · have : i.toNat ≠ j.toNat := by omega
    simp [this, h]
theorem nth_rep {n : Nat} {j : Int} {v : α} (h0 : 0 ≤ j) (h1 : j < n) : nth (List.replicate n v) j = v := by
  have : j.toNat < n := by omega
  simp [nth, List.getD, this]
theorem nth_ext {l m : List α} (h : l.length = m.length) (hn : ∀ j : Int, 0 ≤ j → j < l.length → nth l j = nth m j) : l = m := by
  refine List.ext_getElem h fun i h1 h2 => ?_
  have := hn i (by omega) (by omega)
  simpa [nth, List.getD, h1, h2] using this
theorem nth_out {l : List α} {j : Int} (h0 : 0 ≤ j) (h1 : l.length ≤ j) : nth l j = default := by
  have : l.length ≤ j.toNat := by omega
  simp [nth, List.getD, this]
end
theorem idxS_map {α : Type} (sz off len tot id : Nat) (n : Int) (s : Nat) (f : α → List PV) (xs : List α) (h1 : s = sz) (h2 : tot = xs.length) (h3 : n < len) (h4 : off + len ≤ tot) : idxS sz off len tot id n (some (.cells s (xs.map f))) = some (.ptr id (off + n.toNat) 0 tot) := idxS_cells _ _ _ _ _ _ _ _ h1 (by rw [List.length_map, h2]) h3 h4
def frzS (d : Nat) (H : Heap) (off len tot : Nat) : Option Blk → PV
  | some (.cells _ rows) => if tot = rows.length ∧ off + len ≤ tot then .fz (((rows.drop off).take len).map (·.map (frz d H))) else .unk
  | _ => .unk
theorem frz_sl' (d : Nat) (H : Heap) (id off len tot : Nat) : frz (d + 1) H (.sl id off len tot) = frzS d H off len tot H[id]? := by
  rw [frz]
  cases H[id]? with
  | none => rfl
  | some b =>
    cases b with
    | map es => rfl
    | cells s rows =>
      have : (tot == rows.length && decide (off + len ≤ tot)) = decide (tot = rows.length ∧ off + len ≤ tot) := by rw [Bool.eq_iff_iff]; simp
      simp only [this, frzS]
      by_cases h : tot = rows.length ∧ off + len ≤ tot
      · rw [decide_eq_true h, if_pos h]
      · rw [decide_eq_false h, if_neg h]
theorem frzS_map {α : Type} (f : α → List PV) (xs : List α) (d : Nat) (H : Heap) (len tot s : Nat) (hf : ∀ x ∈ xs, (f x).map (frz d H) = f x) (h1 : len = xs.length) (h2 : tot = xs.length) : frzS d H 0 len tot (some (.cells s (xs.map f))) = .fz (xs.map f) := by
  subst h1
  rw [frzS, if_pos ⟨by simpa using h2, by omega⟩, List.drop_zero, List.take_of_length_le (by simp), List.map_map]
  congr 1
  exact List.map_congr_left fun x hx => hf x hx
theorem frzS_int (xs : List Int) (d : Nat) (H : Heap) (len tot s : Nat) (h1 : len = xs.length) (h2 : tot = xs.length) : frzS (d + 1) H 0 len tot (some (.cells s (xs.map fun k => [.int .i64 k]))) = .fz (xs.map fun k => [.int .i64 k]) := frzS_map _ xs _ H len tot s (fun _ _ => rfl) h1 h2
theorem frzS_bool (xs : List Bool) (d : Nat) (H : Heap) (len tot s : Nat) (h1 : len = xs.length) (h2 : tot = xs.length) : frzS (d + 1) H 0 len tot (some (.cells s (xs.map fun k => [.bool k]))) = .fz (xs.map fun k => [.bool k]) := frzS_map _ xs _ H len tot s (fun _ _ => rfl) h1 h2
theorem frzS_str (xs : List ByteArray) (d : Nat) (H : Heap) (len tot s : Nat) (h1 : len = xs.length) (h2 : tot = xs.length) : frzS (d + 1) H 0 len tot (some (.cells s (xs.map fun k => [.str k]))) = .fz (xs.map fun k => [.str k]) := frzS_map _ xs _ H len tot s (fun _ _ => rfl) h1 h2
theorem rep_int (n : Nat) (v : Int) : List.replicate n [PV.int .i64 v] = (List.replicate n v).map fun k => [.int .i64 k] := by rw [List.map_replicate]
theorem rep_bool (n : Nat) (v : Bool) : List.replicate n [PV.bool v] = (List.replicate n v).map fun b => [.bool b] := by rw [List.map_replicate]
theorem set_int (l : List Int) (i : Nat) (v : Int) : (l.map fun k => [PV.int .i64 k]).set i [.int .i64 v] = (l.set i v).map fun k => [.int .i64 k] := by rw [List.map_set]
theorem set_bool (l : List Bool) (i : Nat) (v : Bool) : (l.map fun b => [PV.bool b]).set i [.bool v] = (l.set i v).map fun b => [.bool b] := by rw [List.map_set]
end
end Go.Av
end
section
namespace Go.Av
open Go Classical
theorem loop_seek {P : AProg} {body : AC} (S : Int → St) (bad : Int → Prop) (G : Int → St → Prop) (F : AExit × St) (lo n : Int)
    (hstep : ∀ i, lo ≤ i → i < n → ¬bad i → ∃ st', EV P body (S i) = some (.normal, st') ∧ (S i).next st' = S (i + 1))
    (hbad : ∀ i, lo ≤ i → i < n → bad i → ∃ st, EV P body (S i) = some (.ret, st) ∧ G i st)
    (hend : ∀ i, lo ≤ i → i = n → EV P body (S i) = some F ∧ F.1 ≠ .normal) (i : Int) (h1 : lo ≤ i) (h2 : i ≤ n) :
    match seek bad i n with | some j => ∃ st, EV P (.loop body) (S i) = some (.ret, st) ∧ G j st | none => EV P (.loop body) (S i) = some F := by
  obtain ⟨r, hr, hq⟩ := loop_ind S (fun i => lo ≤ i ∧ i ≤ n) (fun i => (n - i).toNat) (fun i r => match seek bad i n with | some j => ∃ st, r = (.ret, st) ∧ G j st | none => r = F) (by
    rintro i ⟨h1, h2⟩
    by_cases hn : i = n
    · left
      rw [seek_end bad (by omega)]
      exact ⟨F, (hend i h1 hn).1, (hend i h1 hn).2, rfl⟩
    · by_cases hp : bad i
      · left
        rw [seek_hit (by omega) hp]
        obtain ⟨st, h3, h4⟩ := hbad i h1 (by omega) hp
        exact ⟨_, h3, by simp, st, rfl, h4⟩
      · right
        obtain ⟨st', h3, h4⟩ := hstep i h1 (by omega) hp
        exact ⟨i + 1, st', ⟨by omega, by omega⟩, by omega, h3, h4, fun r h => by rw [seek_miss (by omega) hp]; exact h⟩) i ⟨h1, h2⟩
  cases hs : seek bad i n with
  | none => rw [hs] at hq; dsimp only at hq ⊢; rw [hr, hq]
  | some j =>
    rw [hs] at hq
    obtain ⟨st, rfl, h⟩ := hq
    exact ⟨st, hr, h⟩
def OnSum {σ ρ : Type} (p : σ → Prop) (q : ρ → Prop) : σ ⊕ ρ → Prop
  | .inl a => p a
  | .inr r => q r
theorem loop_iterq {P : AProg} {body : AC} {σ ρ : Type} (S : Int → σ → St) (g : Int → σ → σ ⊕ ρ) (ok : Int → σ → Prop) (F : σ → AExit × St) (G : ρ → St → Prop) (lo n : Int)
    (hstep : ∀ i a, lo ≤ i → i < n → ok i a → match g i a with
      | .inl a' => (∃ st', EV P body (S i a) = some (.normal, st') ∧ (S i a).next st' = S (i + 1) a') ∧ ok (i + 1) a'
      | .inr r => ∃ st, EV P body (S i a) = some (.ret, st) ∧ G r st)
    (hend : ∀ i a, lo ≤ i → i = n → ok i a → EV P body (S i a) = some (F a) ∧ (F a).1 ≠ .normal) (i : Int) (a : σ) (h1 : lo ≤ i) (h2 : i ≤ n) (h3 : ok i a) :
    OnSum (fun a' => EV P (.loop body) (S i a) = some (F a') ∧ ok n a') (fun r => ∃ st, EV P (.loop body) (S i a) = some (.ret, st) ∧ G r st) (iterx g (n - i).toNat i a) := by
  generalize hm : (n - i).toNat = m
  induction m generalizing i a with
  | zero =>
    have e : i = n := by omega
    obtain ⟨e1, e2⟩ := hend i a h1 e h3
    subst e
    refine ⟨?_, h3⟩
    rw [EV_loop, e1]
    generalize F a = r at e2
    obtain ⟨x, s⟩ := r
    cases x <;> first | rfl | exact absurd rfl e2
  | succ m ih =>
    have hs := hstep i a h1 (by omega) h3
    rw [iterx]
    cases hg : g i a with
    | inl a' =>
      rw [hg] at hs
      obtain ⟨⟨st', h4, h5⟩, h6⟩ := hs
      have := ih (i + 1) a' (by omega) (by omega) h6 (by omega)
      have e : EV P (.loop body) (S i a) = EV P (.loop body) (S (i + 1) a') := by rw [EV_loop, h4]; show EV P (.loop body) ((S i a).next st') = _; rw [h5]
      rw [e]; exact this
    | inr r =>
      rw [hg] at hs
      obtain ⟨st, h4, h5⟩ := hs
      exact ⟨st, by rw [EV_loop, h4], h5⟩
def frzPR (d : Nat) (H : Heap) (off : Nat) : Bool → Option (List PV) → PV
  | true, some cs => .fp (cs.map (frz d H)) off
  | _, _ => .unk
def frzP (d : Nat) (H : Heap) (row off tot : Nat) : Option Blk → PV
  | some (.cells _ rows) => frzPR d H off (decide (tot = rows.length)) rows[row]?
  | _ => .unk
theorem frzPR_some (d : Nat) (H : Heap) (off : Nat) (cs : List PV) : frzPR d H off true (some cs) = .fp (cs.map (frz d H)) off := rfl
theorem frzP_cells (d : Nat) (H : Heap) (row off tot s : Nat) (rows : List (List PV)) : frzP d H row off tot (some (.cells s rows)) = frzPR d H off (decide (tot = rows.length)) rows[row]? := rfl
theorem frz_ptr' (d : Nat) (H : Heap) (id row off tot : Nat) : frz (d + 1) H (.ptr id row off tot) = frzP d H row off tot H[id]? := by
  rw [frz]
  cases H[id]? with
  | none => rfl
  | some b =>
    cases b with
    | map es => rfl
    | cells s rows =>
      have : (tot == rows.length) = decide (tot = rows.length) := by rw [Bool.eq_iff_iff]; simp
      simp only [this, frzP]
      cases decide (tot = rows.length) <;> cases rows[row]? <;> rfl
theorem trim_take (n : Nat) (b : Bool) (H : Heap) : trim n [.bool b] H [] = (H.take n, []) := trim_bare n [.bool b] H [] rfl rfl
def ResAt (slot id sz : Nat) (cs : List PV) (st : St) : Prop := st.per.get slot = .ptr id 0 0 1 ∧ st.H[id]? = some (.cells sz [cs])
end Go.Av
end
section
namespace Go.Av
open Go
def dstReg (o : AOper) : List Nat := match o.dst with | some (false, n) => [n] | _ => []
def slotsOf (o : AOper) : List Nat := regsOf o ++ dstReg o
def usedOps : List AOper → Nat → Bool
  | [], _ => false
  | o :: os, k => (slotsOf o).any (Nat.beq k) || usedOps os k
def killAfter : List Nat → List BOp → List BOp
  | [], bs => bs
  | ks, bs => .kill ks :: bs
def annot : List AOper → List BOp
  | [] => []
  | [o] => [.op o]
  | o :: o' :: os => .op o :: killAfter ((slotsOf o).filter fun k => !(usedOps (o' :: os) k)) (annot (o' :: os))
theorem opsOf_killAfter (ks : List Nat) (bs : List BOp) : opsOf (killAfter ks bs) = opsOf bs := by cases ks <;> rfl
theorem usedIn_killAfter (ks : List Nat) (bs : List BOp) (k : Nat) : usedIn (killAfter ks bs) k = usedIn bs k := by cases ks <;> rfl
theorem opsOf_annot : ∀ os, opsOf (annot os) = os
  | [] => rfl
  | [o] => rfl
  | o :: o' :: os => by rw [annot, opsOf, opsOf_killAfter, opsOf_annot]
theorem usedIn_annot : ∀ os k, usedIn (annot os) k = true → usedOps os k = true
  | [], _, h => h
  | [o], k, h => by
    simp only [annot, usedIn, Bool.or_false] at h
    simp only [usedOps, slotsOf, List.any_append, Bool.or_false, h, Bool.true_or]
  | o :: o' :: os, k, h => by
    rw [annot, usedIn, Bool.or_eq_true, usedIn_killAfter] at h
    rw [usedOps, Bool.or_eq_true]
    rcases h with h | h
    · exact .inl (by simp only [slotsOf, List.any_append, h, Bool.true_or])
    · exact .inr (usedIn_annot _ _ h)
theorem killOk_annot : ∀ os, killOk (annot os) = true
  | [] => rfl
  | [o] => rfl
  | o :: o' :: os => by
    rw [annot, killOk]
    have ih := killOk_annot (o' :: os)
    have : ∀ ks : List Nat, (∀ k ∈ ks, usedOps (o' :: os) k = false) → killOk (killAfter ks (annot (o' :: os))) = true := by
      intro ks hks
      cases ks with
      | nil => exact ih
      | cons k ks =>
        rw [killAfter, killOk, ih, Bool.and_true, List.all_eq_true]
        · intro j hj
          cases hu : usedIn (annot (o' :: os)) j with
          | false => rfl
          | true => exact absurd (usedIn_annot _ _ hu) (by rw [hks j hj]; exact Bool.false_ne_true)
        · intro h; cases h
    refine this _ fun k hk => ?_
    have := (List.mem_filter.1 hk).2
    cases hu : usedOps (o' :: os) k with
    | false => rfl
    | true => rw [hu] at this; cases this
theorem rgA {P : AProg} {ops : List AOper} {l : List BOp} (h : annot ops = l) (d : Bool) (st : St) : EV P (.region d ops) st = regK (runB P l { per := st.per, reg := [], H := st.H, ed := st.ed }) := by
  subst h
  exact XV_region d ops _ (opsOf_annot ops) (killOk_annot ops) st
def nR : AC → Nat
  | .region _ _ => 1
  | .seq a b => nR a + nR b
  | .cond _ _ a b => nR a + nR b
  | .block _ b => nR b
  | .loop b => nR b
  | _ => 0
def nB : AC → Nat
  | .seq a b => nB a + nB b
  | .cond _ _ a b => nB a + nB b
  | .block _ b => nB b
  | .loop b => nB b + 1
  | _ => 0
def regs : AC → List (List AOper)
  | .region _ os => [os]
  | .seq a b => regs a ++ regs b
  | .cond _ _ a b => regs a ++ regs b
  | .block _ b => regs b
  | .loop b => regs b
  | _ => []
def loops : AC → Nat → Nat → List (AC × Nat × Nat)
  | .seq a b, i, j => loops a i j ++ loops b (i + nR a) (j + nB a)
  | .cond _ _ a b, i, j => loops a i j ++ loops b (i + nR a) (j + nB a)
  | .block _ b, i, j => loops b i j
  | .loop b, i, j => (b, i, j + 1) :: loops b i (j + 1)
  | _, _, _ => []
def skel (R : Nat → List AOper) (B : Nat → AC) : AC → Nat → Nat → AC
  | .region d _, i, _ => .region d (R i)
  | .seq a b, i, j => .seq (skel R B a i j) (skel R B b (i + nR a) (j + nB a))
  | .cond g c a b, i, j => .cond g c (skel R B a i j) (skel R B b (i + nR a) (j + nB a))
  | .block id b, i, j => .block id (skel R B b i j)
  | .loop _, _, j => .loop (B j)
  | .skip, _, _ => .skip
  | .exit id, _, _ => .exit id
  | .ret, _, _ => .ret
theorem regs_length : ∀ c, (regs c).length = nR c
  | .region _ _ => rfl
  | .seq a b => by rw [regs, List.length_append, regs_length a, regs_length b, nR]
  | .cond _ _ a b => by rw [regs, List.length_append, regs_length a, regs_length b, nR]
  | .block _ b => regs_length b
  | .loop b => regs_length b
  | .skip => rfl
  | .exit _ => rfl
  | .ret => rfl
theorem loops_length : ∀ c i j, (loops c i j).length = nB c
  | .region _ _, _, _ => rfl
  | .seq a b, i, j => by rw [loops, List.length_append, loops_length a, loops_length b, nB]
  | .cond _ _ a b, i, j => by rw [loops, List.length_append, loops_length a, loops_length b, nB]
  | .block _ b, i, j => loops_length b i j
  | .loop b, i, j => by rw [loops, List.length_cons, loops_length b, nB]
  | .skip, _, _ => rfl
  | .exit _, _, _ => rfl
  | .ret, _, _ => rfl
theorem skel_eq (R : Nat → List AOper) (B : Nat → AC) : ∀ c i j, (∀ k, k < nR c → (regs c)[k]? = some (R (i + k))) → (∀ k, k < nB c → ((loops c i j)[k]?).map (·.1) = some (B (j + k))) → skel R B c i j = c
  | .region d os, i, j, hR, _ => by
    have := hR 0 (by rw [nR]; omega)
    simp only [regs, List.getElem?_cons_zero, Nat.add_zero, Option.some.injEq] at this
    rw [skel, ← this]
  | .seq a b, i, j, hR, hB => by
    rw [skel, skel_eq R B a i j, skel_eq R B b]
    · intro k hk
      have := hR (nR a + k) (by rw [nR]; omega)
      rw [regs, List.getElem?_append_right (by rw [regs_length]; omega), regs_length, Nat.add_sub_cancel_left] at this
      rw [this, Nat.add_assoc]
    · intro k hk
      have := hB (nB a + k) (by rw [nB]; omega)
      rw [loops, List.getElem?_append_right (by rw [loops_length]; omega), loops_length, Nat.add_sub_cancel_left] at this
      rw [this, Nat.add_assoc]
    · intro k hk
      have := hR k (by rw [nR]; omega)
      rwa [regs, List.getElem?_append_left (by rw [regs_length]; omega)] at this
    · intro k hk
      have := hB k (by rw [nB]; omega)
      rwa [loops, List.getElem?_append_left (by rw [loops_length]; omega)] at this
  | .cond g c a b, i, j, hR, hB => by
    rw [skel, skel_eq R B a i j, skel_eq R B b]
    · intro k hk
      have := hR (nR a + k) (by rw [nR]; omega)
      rw [regs, List.getElem?_append_right (by rw [regs_length]; omega), regs_length, Nat.add_sub_cancel_left] at this
      rw [this, Nat.add_assoc]
    · intro k hk
      have := hB (nB a + k) (by rw [nB]; omega)
      rw [loops, List.getElem?_append_right (by rw [loops_length]; omega), loops_length, Nat.add_sub_cancel_left] at this
      rw [this, Nat.add_assoc]
    · intro k hk
      have := hR k (by rw [nR]; omega)
      rwa [regs, List.getElem?_append_left (by rw [regs_length]; omega)] at this
    · intro k hk
      have := hB k (by rw [nB]; omega)
      rwa [loops, List.getElem?_append_left (by rw [loops_length]; omega)] at this
  | .block id b, i, j, hR, hB => by rw [skel, skel_eq R B b i j hR hB]
  | .loop b, i, j, _, hB => by
    have := hB 0 (by rw [nB]; omega)
    simp only [loops, List.getElem?_cons_zero, Nat.add_zero, Option.map_some, Option.some.injEq] at this
    rw [skel, ← this]
  | .skip, _, _, _, _ => rfl
  | .exit _, _, _, _, _ => rfl
  | .ret, _, _, _, _ => rfl
def regAt (c : AC) (i : Nat) : List AOper := (regs c).getD i []
def loopAt (c : AC) (j : Nat) : AC × Nat × Nat := (loops c 0 0).getD j (.skip, 0, 0)
def Part (c b : AC) (i j : Nat) : Prop := (∀ k, k < nR b → (regs b)[k]? = (regs c)[i + k]?) ∧ (∀ k, k < nB b → (loops b i j)[k]? = (loops c 0 0)[j + k]?) ∧ i + nR b ≤ nR c ∧ j + nB b ≤ nB c
theorem part_self (c : AC) : Part c c 0 0 := ⟨fun k _ => by rw [Nat.zero_add], fun k _ => by rw [Nat.zero_add], by omega, by omega⟩
theorem skel_part {c b : AC} {i j : Nat} (h : Part c b i j) : skel (regAt c) (fun j => (loopAt c j).1) b i j = b := by
  refine skel_eq _ _ b i j (fun k hk => ?_) fun k hk => ?_
  · have hl : i + k < (regs c).length := by rw [regs_length]; have := h.2.2.1; omega
    rw [h.1 k hk, regAt, List.getD_eq_getElem?_getD, List.getElem?_eq_getElem hl]; rfl
  · have hl : j + k < (loops c 0 0).length := by rw [loops_length]; have := h.2.2.2; omega
    show _ = some ((loops c 0 0).getD (j + k) _).1
    rw [h.2.1 k hk, List.getD_eq_getElem?_getD, List.getElem?_eq_getElem hl]; rfl
theorem loops_part : ∀ (c b : AC) (i j : Nat), Part c b i j → ∀ x i' j', (x, i', j') ∈ loops b i j → Part c x i' j'
  | c, .region _ _, i, j, _, x, i', j', hx => by cases hx
  | c, .skip, i, j, _, x, i', j', hx => by cases hx
  | c, .exit _, i, j, _, x, i', j', hx => by cases hx
  | c, .ret, i, j, _, x, i', j', hx => by cases hx
  | c, .block id b, i, j, h, x, i', j', hx => loops_part c b i j h x i' j' hx
  | c, .loop b, i, j, h, x, i', j', hx => by
    have hb : Part c b i (j + 1) := by
      refine ⟨h.1, fun k hk => ?_, h.2.2.1, by have := h.2.2.2; simp only [nB] at this; omega⟩
      have := h.2.1 (k + 1) (by rw [nB]; omega)
      rw [loops, List.getElem?_cons_succ] at this
      rw [this]; congr 1; omega
    rw [loops, List.mem_cons] at hx
    rcases hx with hx | hx
    · cases hx; exact hb
    · exact loops_part c b i (j + 1) hb x i' j' hx
  | c, .seq a b, i, j, h, x, i', j', hx => by
    rw [loops, List.mem_append] at hx
    have h3 := h.2.2.1
    have h4 := h.2.2.2
    simp only [nR, nB] at h3 h4
    rcases hx with hx | hx
    · refine loops_part c a i j ⟨fun k hk => ?_, fun k hk => ?_, by omega, by omega⟩ x i' j' hx
      · have := h.1 k (by rw [nR]; omega)
        rwa [regs, List.getElem?_append_left (by rw [regs_length]; omega)] at this
      · have := h.2.1 k (by rw [nB]; omega)
        rwa [loops, List.getElem?_append_left (by rw [loops_length]; omega)] at this
    · refine loops_part c b _ _ ⟨fun k hk => ?_, fun k hk => ?_, by omega, by omega⟩ x i' j' hx
      · have := h.1 (nR a + k) (by rw [nR]; omega)
        rw [regs, List.getElem?_append_right (by rw [regs_length]; omega), regs_length, Nat.add_sub_cancel_left] at this
        rw [this, Nat.add_assoc]
      · have := h.2.1 (nB a + k) (by rw [nB]; omega)
        rw [loops, List.getElem?_append_right (by rw [loops_length]; omega), loops_length, Nat.add_sub_cancel_left] at this
        rw [this, Nat.add_assoc]
  | c, .cond _ _ a b, i, j, h, x, i', j', hx => by
    rw [loops, List.mem_append] at hx
    have h3 := h.2.2.1
    have h4 := h.2.2.2
    simp only [nR, nB] at h3 h4
    rcases hx with hx | hx
    · refine loops_part c a i j ⟨fun k hk => ?_, fun k hk => ?_, by omega, by omega⟩ x i' j' hx
      · have := h.1 k (by rw [nR]; omega)
        rwa [regs, List.getElem?_append_left (by rw [regs_length]; omega)] at this
      · have := h.2.1 k (by rw [nB]; omega)
        rwa [loops, List.getElem?_append_left (by rw [loops_length]; omega)] at this
    · refine loops_part c b _ _ ⟨fun k hk => ?_, fun k hk => ?_, by omega, by omega⟩ x i' j' hx
      · have := h.1 (nR a + k) (by rw [nR]; omega)
        rw [regs, List.getElem?_append_right (by rw [regs_length]; omega), regs_length, Nat.add_sub_cancel_left] at this
        rw [this, Nat.add_assoc]
      · have := h.2.1 (nB a + k) (by rw [nB]; omega)
        rw [loops, List.getElem?_append_right (by rw [loops_length]; omega), loops_length, Nat.add_sub_cancel_left] at this
        rw [this, Nat.add_assoc]
theorem skC {c : AC} {R : Nat → List AOper} {B : Nat → AC} {s : (Nat → List AOper) → (Nat → AC) → AC} (hR : R = regAt c) (hB : B = fun j => (loopAt c j).1) (h : ∀ R B, skel R B c 0 0 = s R B) : c = s R B := by
  rw [hR, hB, ← h]; exact (skel_part (part_self c)).symm
theorem skB {c : AC} {R : Nat → List AOper} {B : Nat → AC} {j : Nat} {s : (Nat → List AOper) → (Nat → AC) → AC} (hR : R = regAt c) (hB : B = fun j => (loopAt c j).1) (h : ∀ R B, skel R B (loopAt c j).1 (loopAt c j).2.1 (loopAt c j).2.2 = s R B) : B j = s R B := by
  have hp : Part c (loopAt c j).1 (loopAt c j).2.1 (loopAt c j).2.2 := by
    rw [loopAt, List.getD_eq_getElem?_getD]
    by_cases hj : j < (loops c 0 0).length
    · rw [List.getElem?_eq_getElem hj]
      exact loops_part c c 0 0 (part_self c) _ _ _ (List.getElem_mem hj)
    · rw [List.getElem?_eq_none (by omega)]
      exact ⟨fun k hk => absurd hk (Nat.not_lt_zero _), fun k hk => absurd hk (Nat.not_lt_zero _), Nat.zero_le _, Nat.zero_le _⟩
  subst hR; subst hB
  rw [← h]; exact (skel_part hp).symm
end Go.Av
end
section
set_option maxRecDepth 100000
namespace Go.Av
open Go Classical
theorem refs_und : refs .und = [] := rfl
theorem refs_unk : refs .unk = [] := rfl
theorem refs_int (k : IntKind) (n : Int) : refs (.int k n) = [] := rfl
theorem refs_bool (b : Bool) : refs (.bool b) = [] := rfl
theorem refs_str (s : ByteArray) : refs (.str s) = [] := rfl
theorem refs_flt (k : FloatKind) (n : Nat) : refs (.flt k n) = [] := rfl
theorem refs_fz (l : List (List PV)) : refs (.fz l) = [] := rfl
theorem refs_fp (l : List PV) (n : Nat) : refs (.fp l n) = [] := rfl
theorem refs_nils : refs .nils = [] := rfl
theorem refs_nilp : refs .nilp = [] := rfl
theorem refs_nilf : refs .nilf = [] := rfl
theorem refs_nilm : refs .nilm = [] := rfl
theorem refs_fm (es : List (PV × PV)) : refs (.fm es) = [] := rfl
theorem gone_reg (n : Nat) (st : St) : goneIn true (.reg n) st = st := rfl
theorem gone_const (v : PV) (st : St) : goneIn true (.const v) st = st := rfl
theorem gone_glob (n : Nat) (st : St) : goneIn true (.glob n) st = st := rfl
def XD :=
  And.intro @X_copy <| And.intro @XG_copy <| And.intro @X_pick <| And.intro @XG_pick <| And.intro @X_load <|
  And.intro @XG_load <| And.intro @X_nilCheck <| And.intro @XG_nilCheck <| And.intro @X_bin <| And.intro @XG_bin <|
  And.intro @X_eqB <| And.intro @XG_eqB <| And.intro @X_un <| And.intro @XG_un <| And.intro @X_conv <| And.intro @X_prim <| And.intro @XG_prim <| And.intro @X_minmax <| And.intro @XG_minmax <| And.intro @X_indexP <| And.intro @XG_indexP <|
  And.intro @XG_conv <| And.intro @X_mkfn <| And.intro @XG_mkfn <| And.intro @X_fieldA <| And.intro @XG_fieldA <|
  And.intro @X_field <| And.intro @XG_field <| And.intro @X_len <| And.intro @XG_len <| And.intro @X_lenS <|
  And.intro @XG_lenS <| And.intro @X_extract <| And.intro @XG_extract <| And.intro @X_indexA <| And.intro @XG_indexA <|
  And.intro @X_call <| And.intro @XG_call <| And.intro @X_callv <| And.intro @XG_callv <| And.intro @X_build <|
  And.intro @XG_build <| And.intro @X_lookup <| And.intro @XG_lookup <| And.intro @e_store <| And.intro @e_box <|
  And.intro @e_alloc <| @Go.Av.e_mkslice
def XU :=
  And.intro @refs_und <| And.intro @refs_unk <| And.intro @refs_int <| And.intro @refs_bool <| And.intro @refs_str <| And.intro @refs_flt <| And.intro @refs_fz <| And.intro @refs_fp <| And.intro @refs_nils <| And.intro @refs_nilp <| And.intro @refs_nilf <| And.intro @refs_nilm <| And.intro @refs_fm <| And.intro @gone_reg <| And.intro @gone_const <| And.intro @gone_glob <|
  And.intro @refs.eq_1 <| And.intro @refs.eq_2 <| And.intro @refs.eq_3 <| And.intro @refs.eq_4 <| And.intro @refs.eq_5 <| And.intro @refs.eq_6 <| And.intro @goneIn.eq_1 <| And.intro @goneIn.eq_3 <| And.intro @Nat.beq.eq_1 <| And.intro @Nat.beq.eq_2 <| And.intro @Nat.beq.eq_3 <| And.intro @Nat.beq.eq_4 <| And.intro @Nat.ble.eq_1 <| And.intro @Nat.ble.eq_2 <| And.intro @Nat.ble.eq_3 <| And.intro @List.isEmpty_cons.{0} <|
  And.intro @mkfnV.eq_1 <| And.intro @boxK.eq_1 <| And.intro @edgesTo.eq_1 <| And.intro @evOp.eq_1 <| And.intro @evOp.eq_2 <| And.intro @evOp.eq_3 <| And.intro @evOp.eq_4 <| And.intro @evOp.eq_5 <| And.intro @evOp.eq_6 <| And.intro @evOp.eq_7 <| And.intro @evOp.eq_8 <| And.intro @evOp.eq_9 <| And.intro @evOp.eq_10 <| And.intro @evOp.eq_11 <| And.intro @evOp.eq_12 <| And.intro @evOp.eq_13 <| And.intro @evOp.eq_14 <| And.intro @evOp.eq_15 <| And.intro @evOp.eq_16 <| And.intro @evOp.eq_17 <| And.intro @evOp.eq_18 <| And.intro @evOp.eq_19 <| And.intro @evOp.eq_20 <| And.intro @evOp.eq_21 <| And.intro @evOp.eq_22 <| And.intro @evOp.eq_23 <| And.intro @evOp.eq_24 <| And.intro @evOp.eq_25 <| And.intro @evOp.eq_26 <| And.intro @evOp.eq_27 <| And.intro @evOp.eq_28 <| And.intro @evOp.eq_29 <| And.intro @evOp.eq_30 <| And.intro @evOp.eq_31 <| And.intro @evOp.eq_32 <| And.intro @evOp.eq_33 <| And.intro @evOp.eq_34 <| And.intro @evOp.eq_35 <| And.intro @Opd.get.eq_1 <| And.intro @Opd.get.eq_2 <| And.intro @Opd.get.eq_3 <| And.intro @Opd.get.eq_4 <| And.intro @St.put.eq_1 <| And.intro @St.put.eq_2 <| And.intro @St.put.eq_3 <| And.intro @Env.get.eq_1 <| And.intro @Env.get.eq_2 <| And.intro @Env.put.eq_1 <| And.intro @Env.put.eq_2 <| And.intro @Env.erase.eq_1 <| And.intro @Env.erase.eq_2 <| And.intro @params.eq_1 <| And.intro @params.eq_2 <| And.intro @refsL.eq_1 <| And.intro @refsL.eq_2 <| And.intro @evCall.eq_1 <| And.intro @evCall.eq_2 <| And.intro @evCall.eq_3 <| And.intro @evOp.eq_36 <| And.intro @lendB.eq_1 <| And.intro @lendB.eq_2 <| And.intro @lendL.eq_1 <| And.intro @lendL.eq_2 <| And.intro @lendV.eq_1 <| And.intro @lendV.eq_2 <| And.intro @lendV.eq_3 <| And.intro @lendV.eq_4 <| And.intro @lendV.eq_5 <| And.intro @lendV.eq_6 <| And.intro @lendV.eq_7 <| And.intro @lendV.eq_8 <| And.intro @lendV.eq_9 <| And.intro @lendV.eq_10 <| And.intro @lendV.eq_11 <| And.intro @lendV.eq_12 <| And.intro @lendV.eq_13 <| And.intro @lendV.eq_14 <| And.intro @lendV.eq_15 <| And.intro @lendV.eq_16 <| And.intro @lendV.eq_17 <| And.intro @lendV.eq_18 <| And.intro @lendV.eq_19 <| And.intro @lendV.eq_20 <|
  And.intro @XV_seq <| And.intro @XV_cond <| And.intro @XV_block <| And.intro @EV_ret <| And.intro @EV_skip <|
  And.intro @EV_exit <| And.intro @X_nil <| And.intro @X_kill <| And.intro @List.foldl_cons.{0,0} <| And.intro @List.foldl_nil.{0,0} <|
  And.intro @vK_some <| And.intro @gv_some <| And.intro @loadV_fp <| And.intro @loadV_ptr <| And.intro @take_one <|
  And.intro @take_agg <| And.intro @idx_map <| And.intro @idx_sl <| And.intro @nth_some <| And.intro @wrap64 <|
  And.intro @idxS_cells <| And.intro @idxS_map <| And.intro @callV_eq <| And.intro @callvV_fn <| And.intro @callR_some <|
  And.intro @callR_ite <| And.intro @buildV_eq <| And.intro @buildK_some <| And.intro @fillRow_nil <|
  And.intro @fillRow_cons <| And.intro @loadB_cells <| And.intro @loadR_some <| And.intro @idxK_some <|
  And.intro @pickV_bool <| And.intro @pickV_ite <| And.intro @nilCheckV_ptr <| And.intro @nilCheckV_fp <|
  And.intro @eqBV_bool <| And.intro @negB_t <| And.intro @negB_f <| And.intro @convV_int <| And.intro @primV_bits <| And.intro @primV_i2f <| And.intro @mmV_max <| And.intro @mmV_min <| And.intro @idxP_ptr <| And.intro @fieldAV_ptr <|
  And.intro @fieldAV_fp <| And.intro @fieldV_agg <| And.intro @lenV_fz <| And.intro @lenV_sl <| And.intro @lenV_nils <|
  And.intro @lenSV_str <| And.intro @extractV_tup <| And.intro @bin_add <| And.intro @bin_sub <| And.intro @bin_mul <|
  And.intro @bin_rem <| And.intro @bin_quo <| And.intro @bin_eql <| And.intro @bin_neq <| And.intro @bin_lss <|
  And.intro @bin_leq <| And.intro @bin_gtr <| And.intro @bin_geq <| And.intro @bin_feql <| And.intro @bin_fneq <|
  And.intro @bin_flss <| And.intro @bin_fgtr <| And.intro @bin_seql <| And.intro @bin_sneq <| And.intro @un_not <|
  And.intro @un_neg <| And.intro @cellsOf_agg <| And.intro @cellsOf_int <| And.intro @cellsOf_bool <|
  And.intro @cellsOf_str <| And.intro @cellsOf_flt <| And.intro @cellsOf_fz <| And.intro @cellsOf_fp <|
  And.intro @cellsOf_sl <| And.intro @cellsOf_ptr <| And.intro @cellsOf_nils <| And.intro @cellsOf_nilm <|
  And.intro @cellsOf_nilf <| And.intro @cellsOf_nilp <| And.intro @cellsOf_mp <| And.intro @cellsOf_fm <|
  And.intro @cellsOf_fn <| And.intro @isLeaf_int <| And.intro @isLeaf_bool <| And.intro @isLeaf_str <|
  And.intro @isLeaf_flt <| And.intro @isLeaf_fz <| And.intro @isLeaf_fp <| And.intro @isLeaf_sl <|
  And.intro @isLeaf_ptr <| And.intro @isLeaf_nils <| And.intro @isLeaf_nilm <| And.intro @isLeaf_nilf <|
  And.intro @isLeaf_nilp <| And.intro @isLeaf_mp <| And.intro @isLeaf_fm <| And.intro @isLeaf_fn <|
  And.intro @endR_some <| And.intro @endP_ret <| And.intro @endP_normal <| And.intro @resC_some <|
  And.intro @results_tmp <| And.intro @results_cell <| And.intro @endSR_some <| And.intro @endS_ret <|
  And.intro @endS_normal <| And.intro @endS_ite <| And.intro @resVal_one <| And.intro @resVal_nil <|
  And.intro @resVal_two <| And.intro @plain_bool <| And.intro @plain_int <| And.intro @plain_str <|
  And.intro @plain_flt <| And.intro @stoK_some <| And.intro @storeAt_ptr <| And.intro @stB_cells <|
  And.intro @stR_some <| And.intro @mksK_int <| And.intro @List.append_assoc.{0} <| And.intro @List.length_append.{0} <|
  And.intro @app_get0 <| And.intro @app_get <| And.intro @app_set0 <| And.intro @app_set <| And.intro @List.set_cons_zero.{0} <|
  And.intro @List.set_cons_succ.{0} <| And.intro @List.filter_nil.{0} <| And.intro @List.filter_cons.{0} <| And.intro @Int.toNat_natCast <|
  And.intro @rep_int <| And.intro @rep_bool <| And.intro @set_int <| And.intro @set_bool <| And.intro @List.length_replicate.{0} <|
  And.intro @List.length_set.{0} <| And.intro @List.cons_append.{0} <| And.intro @List.take_zero.{0} <| And.intro @List.drop_zero.{0} <| And.intro @X_cons <|
  And.intro @X_guard <| And.intro @grdK_some <| And.intro @oper_plain <| And.intro @CL_p <| And.intro @CL_s <|
  And.intro @seqK_normal <| And.intro @seqK_ret <| And.intro @seqK_exit <| And.intro @seqK_ite <|
  And.intro @blkK_normal <| And.intro @blkK_ret <| And.intro @blkK_exit <| And.intro @blkK_ite <|
  And.intro @condK_bool <| And.intro @condK_ite <| And.intro @opsK_some <| And.intro @opsK_ite <| And.intro @putK_some <|
  And.intro @wantK_ite <| And.intro @wantK_bool <| And.intro @wantK_und <| And.intro @regK_some <| And.intro @regK_ite <|
  And.intro @ite_someB <| And.intro @ite_someS <| And.intro @ite_someV <| And.intro @ite_exit <| And.intro @ite_St <|
  And.intro @ite_env <| And.intro @ite_bool <| And.intro @ite_int <| And.intro @ite_agg <| And.intro @ite_cells <|
  And.intro @ite_blks <| And.intro @ite_blk <| And.intro @ite_rows <| And.intro @ite_someT <| And.intro @Bool.if_true_left <|
  And.intro @Bool.if_false_left <| And.intro @Bool.if_true_right <| And.intro @Bool.if_false_right <| And.intro @Bool.decide_eq_true <|
  And.intro @Bool.or_false <| And.intro @Bool.and_false <| And.intro @Bool.false_and <| And.intro @Bool.false_or <| And.intro @ite_back <|
  And.intro @env_get_ite <| And.intro @env_put_ite <| And.intro @env_erase_ite <| And.intro @endP_ite <|
  And.intro @frz_ite <| And.intro @beq_t <| And.intro @beq_f <| And.intro @eq_f <| And.intro @not_t' <|
  And.intro @not_ite <| And.intro @Classical.not_not <| And.intro @not_false_eq_true <| And.intro @not_true_eq_false <| And.intro @and_self <|
  And.intro @or_self <| And.intro @results_nil <| And.intro @frz_int <| And.intro @frz_bool <| And.intro @frz_str <|
  And.intro @frz_flt <| And.intro @frz_fz <| And.intro @frz_fp <| And.intro @frz_nils <| And.intro @frz_agg <|
  And.intro @frz_fn <| And.intro @frz_nilf <| And.intro @frz_nilm <| And.intro @frz_ptr' <| And.intro @frzP_cells <|
  And.intro @frzPR_some <| And.intro @frz_sl' <| And.intro @frzS_int <| And.intro @frzS_bool <| And.intro @frzS_str <|
  And.intro @frz_tup <| And.intro @List.append_nil.{0} <| And.intro @List.nil_append.{0} <| And.intro @List.all_cons.{0} <| And.intro @List.all_nil.{0} <|
  And.intro @Bool.and_true <| And.intro @Bool.true_and <| And.intro @List.length_cons.{0} <| And.intro @List.length_nil.{0} <|
  And.intro @List.take_succ_cons.{0} <| And.intro @List.take_nil.{0} <| And.intro @List.drop_succ_cons.{0} <| And.intro @List.drop_nil.{0} <|
  And.intro @List.getElem?_cons_zero.{0} <| And.intro @List.getElem?_cons_succ.{0} <| And.intro @List.isEmpty_nil.{0} <| And.intro @Bool.true_or <|
  And.intro @List.map_cons.{0,0} <| And.intro @List.map_nil.{0,0} <| And.intro @decide_eq_true_eq <| And.intro @Bool.false_eq_true <| And.intro @beq_iff_eq.{0} <|
  And.intro @if_true.{1} <| And.intro @if_false.{1} <| And.intro @ite_self.{1} <| And.intro @decide_true <| And.intro @decide_false <| And.intro @Bool.not_true <|
  And.intro @Bool.not_false <| And.intro @beq_self_eq_true.{0} <| And.intro @Nat.zero_add <| And.intro @Nat.add_zero <| And.intro @decide_not <|
  And.intro @Nat.le_refl <| And.intro @true_and <| And.intro @and_true <| And.intro @Bool.or_true <| And.intro @Option.map_some.{0,0} <|
  And.intro @List.getElem?_map.{0,0} <| And.intro @Bool.or_eq_true <| And.intro @Bool.and_eq_true <| And.intro @Bool.decide_or <|
  And.intro @Bool.decide_and <| And.intro @List.length_map.{0,0} <| And.intro @or_true <| And.intro @true_or <| And.intro @or_false <| And.intro @false_or <|
  And.intro @and_false <| @false_and
end Go.Av
end
section
namespace Go.Av
open Go
section
structure TI where
  size : Nat
  bytes : Nat
  zero : Option Value
structure Tab where
  und : TypeId → Option TypeDesc
  info : TypeId → Option TI
  tags : TypeId → Option (List Nat)
  body : FuncId → Bool
  bits : FuncId → Bool
def tiOf (P : Program) (t : TypeId) : Option TI := match P.info? t with | some i => some ⟨i.size, i.bytes, i.zero⟩ | none => none
def Tab.of (P : Program) : Tab := ⟨P.underlying, tiOf P, structTags P, trBody P, isBits P⟩
def tyAggG (Q : Tab) (t : TypeId) : Option Bool :=
  match Q.und t with
  | some (.struct _) => some true
  | some (.array _ _) => some true
  | some _ => some false
  | none => none
def tySizeG (Q : Tab) (t : TypeId) : Option Nat := match Q.info t with | some i => some i.size | none => none
def tyZeroG (Q : Tab) (t : TypeId) : Option (List PV) := match Q.info t with | some i => (match i.zero with | some z => constCells z.cells.toList | none => none) | none => none
def tyZeroVG (Q : Tab) (t : TypeId) : Option PV := match Q.info t with | some i => (match i.zero with | some z => zeroPV z | none => none) | none => none
def tyElemG (Q : Tab) (t : TypeId) : Option (TypeId × Nat × Nat) :=
  match Q.und t with
  | some (.slice e) => match Q.info e with | some i => (match Nat.beq i.size 0 || Nat.beq i.bytes 0 with | true => none | false => some (e, i.size, i.bytes)) | none => none
  | _ => none
def trPlacesG (Q : Tab) : List Field → Option (List (Nat × Nat))
  | [] => some []
  | f :: fs => match Q.info f.type, trPlacesG Q fs with
    | some i, some ps => some ((f.offset, i.size) :: ps)
    | _, _ => none
def binTyG (Q : Tab) (t : TypeId) : Bool :=
  match Q.und t with
  | some (.int _) | some .string | some (.float _) => true
  | _ => false
def boolTyG (Q : Tab) (t : TypeId) : Bool :=
  match Q.und t with
  | some .bool => true
  | _ => false
def eqTagG (Q : Tab) (t : TypeId) : Option Nat :=
  match Q.und t with
  | some (.int _) => some 0
  | some .bool => some 1
  | some .string => some 2
  | _ => none
def trCallG (Q : Tab) (T : Tell) (dst : Option Nat) (c : Call) : Option AOp :=
  match c.callee with
  | .value f => match funcOpd f with
    | some g => match Q.body g, trOpds T c.args.toList with
      | true, some xs => some (.call (T.md dst) g xs)
      | false, some xs => bitsOp (Q.bits g) xs
      | _, none => none
    | none => match trOpd T f, trOpds T c.args.toList with
      | some y, some xs => some (.callv (T.md dst) y xs)
      | _, _ => none
  | .builtin b => match b with
    | .len => match c.argTypes.toList, c.args.toList with
      | [t], [x] => match Q.und t with
        | some (.slice _) => match trOpd T x with | some y => some (.len y) | none => none
        | some .string => match trOpd T x with | some y => some (.lenS y) | none => none
        | some (.array n _) => some (.copy (.const (.int .i64 n)))
        | _ => none
      | _, _ => none
    | .append => match c.argTypes.toList, c.args.toList with
      | [t, u], [x, y] => match tyElemG Q t, Nat.beq u t, trOpd T x, trOpd T y with
        | some (e, sz, by'), true, some x', some y' => match tyZeroG Q e with
          | some z => match Nat.beq z.length sz with | true => some (.append sz by' x' y') | false => none
          | none => none
        | _, _, _, _ => none
      | _, _ => none
    | .copy => match c.argTypes.toList, c.args.toList with
      | [t, u], [x, y] => match tyElemG Q t, trOpd T x, trOpd T y with
        | some (_, sz, _), some x', some y' => some (.copyS sz x' y')
        | _, _, _ => none
      | _, _ => none
    | .max => match trOpds T c.args.toList with | some xs => mmOp xs true | none => none
    | .min => match trOpds T c.args.toList with | some xs => mmOp xs false | none => none
    | _ => none
  | _ => none
def trOpG (Q : Tab) (T : Tell) (dst : Option Nat) : Op → Option AOp
  | .move x => match trOpd T x with | some y => some (.copy y) | none => none
  | .assign x => match trOpd T x with | some y => some (.copy y) | none => none
  | .pick c a b => match trOpd T c, trOpd T a, trOpd T b with | some c', some a', some b' => some (.pick c' a' b') | _, _, _ => none
  | .alloc t => match tyZeroG Q t with | some z => some (.alloc z) | none => none
  | .box t x => match trOpd T x with | some y => some (.box y) | none => none
  | .build t parts => match tyZeroG Q t, Q.und t with
    | some z, some (.struct fields) => match trPlacesG Q fields.toList with
      | some places => match trParts T (places[·]?) parts.toList with | some ps => some (.build z ps) | none => none
      | none => none
    | some z, some (.array _ e) => match tySizeG Q e with
      | some sz => match trParts T (fun i => some (i * sz, sz)) parts.toList with | some ps => some (.build z ps) | none => none
      | none => none
    | _, _ => none
  | .buildSlice t len parts => match tyElemG Q t with
    | some (e, sz, _) => match tyZeroG Q e, trRows T parts.toList, Nat.ble (len * sz) 16777216 with
      | some z, some ps, true => match Nat.beq z.length sz with | true => some (.buildSlice sz len z ps) | false => none
      | _, _, _ => none
    | none => none
  | .load t a => match tyAggG Q t, tySizeG Q t, trOpd T a with | some g, some sz, some y => some (.load g sz y) | _, _, _ => none
  | .store t a x => match tySizeG Q t, trOpd T a, trOpd T x with | some sz, some y, some z => some (.store sz y z) | _, _, _ => none
  | .nilCheck x => match trOpd T x with | some y => some (.nilCheck y) | none => none
  | .binOp op t x y _ => match trOpd T x, trOpd T y with
    | some x', some y' => match binTyG Q t with
      | true => some (.bin op x' y')
      | false => match negOf op with
        | some neg => match boolTyG Q t with
          | true => some (.eqB neg x' y')
          | false => match Q.tags t with
            | some tags => some (.eqS neg tags x' y')
            | none => none
        | none => none
    | _, _ => none
  | .unOp op _ x => match trOpd T x with | some y => some (.un op y) | none => none
  | .convert s d x => match Q.und s, Q.und d, trOpd T x with
    | some (.int _), some (.int k), some y => some (.conv k y)
    | some (.int _), some (.float .f64), some y => some (.prim .i2f y)
    | some (.slice e), some .string, some y => match Q.und e with | some (.int .u8) => some (.bstr y) | _ => none
    | _, _, _ => none
  | .makeFunc fn first captured => match fn, first.toList, trOpds T captured.toList with
    | .func f, [], some xs => some (.mkfn f xs)
    | _, _, _ => none
  | .makeSlice t l c => match tyElemG Q t with
    | some (e, sz, by') => match tyZeroG Q e, trOpd T l, trOpd T c with
      | some z, some l', some c' => match Nat.beq z.length sz with | true => some (.mkslice sz by' z l' c') | false => none
      | _, _, _ => none
    | none => none
  | .slice t x lo hi mx => match mx with
    | some _ => none
    | none =>
      match Q.und t with
      | some .string => match trOpd T x, trBound T lo, trBound T hi with
        | some x', some l', some h' => some (.sliceS x' l' h')
        | _, _, _ => none
      | some (.slice e) => match tySizeG Q e, trOpd T x, trBound T lo, trBound T hi with
        | some sz, some x', some l', some h' => some (.slice sz x' l' h')
        | _, _, _, _ => none
      | _ => none
  | .fieldAddr t x k => match Q.und t with
    | some (.struct fields) => match fields[k]? with
      | some f => match tySizeG Q f.type, trOpd T x with
        | some sz, some y => match Nat.beq sz 0 with | true => none | false => some (.fieldA f.offset y)
        | _, _ => none
      | none => none
    | _ => none
  | .field t x k => match Q.und t with
    | some (.struct fields) => match fields[k]? with
      | some f => match tyAggG Q f.type, tySizeG Q f.type, trOpd T x with
        | some g, some sz, some y => some (.field g f.offset sz y)
        | _, _, _ => none
      | none => none
    | _ => none
  | .indexAddr t x i => match tyElemG Q t, trOpd T x, trOpd T i with
    | some (_, sz, _), some x', some i' => some (.indexA sz x' i')
    | none, some x', some i' => match Q.und t with
      | some (.array n e) => match tySizeG Q e with
        | some sz => some (.indexP n sz x' i')
        | none => none
      | _ => none
    | _, _, _ => none
  | .index t x i => match Q.und t with
    | some (.array n e) => match tyAggG Q e, tySizeG Q e, trOpd T x, trOpd T i with
      | some g, some sz, some x', some i' => some (.indexV n g sz x' i')
      | _, _, _, _ => none
    | _ => none
  | .extract x i => match trOpd T x with | some y => some (.extract y i) | none => none
  | .makeMap _ r => match r with | none => some .mkmap | some _ => none
  | .lookup t x i ok => match Q.und t with
    | some (.map k e) => match eqTagG Q k, tyZeroVG Q e, trOpd T x, trOpd T i with
      | some tag, some z, some x', some i' => some (.lookup tag z ok x' i')
      | _, _, _, _ => none
    | _ => none
  | .insert t mp k x => match Q.und t with
    | some (.map kt _) => match eqTagG Q kt, trOpd T mp, trOpd T k, trOpd T x with
      | some tag, some m', some k', some x' => some (.insert tag m' k' x')
      | _, _, _, _ => none
    | _ => none
  | .mapUpdate t mp k x => match Q.und t with
    | some (.map kt _) => match eqTagG Q kt, trOpd T mp, trOpd T k, trOpd T x with
      | some tag, some m', some k', some x' => some (.insert tag m' k' x')
      | _, _, _, _ => none
    | _ => none
  | .call c => trCallG Q T dst c
  | _ => none
def trOperG (Q : Tab) (T : Tell) (nt : Nat) (ops : Array Oper) (o : Oper) : Option AOper :=
  let g : Option (Option (Opd × Bool)) := match o.guard with
    | none => some none
    | some (j, want) => match ops[j]? with
      | some oj => match oj.dst with
        | some d => match Nat.blt d nt with
          | true => some (some (match T.K d with | true => .per d | false => .reg d, want))
          | false => none
        | none => none
      | none => none
  match g, trOpG Q T o.dst o.op with
  | some g', some op => match o.dst with
    | none => some ⟨none, op, g', false, []⟩
    | some d => match Nat.blt d nt with
      | true => some ⟨some (T.K d, d), op, g', T.S (some d), []⟩
      | false => none
  | _, _ => none
def trOpersG (Q : Tab) (T : Tell) (nt : Nat) (ops : Array Oper) : List Oper → Option (List AOper)
  | [] => some []
  | o :: os => match trOperG Q T nt ops o, trOpersG Q T nt ops os with
    | some a, some as => some (a :: as)
    | _, _ => none
def trCodeG (Q : Tab) (T : Tell) (nt : Nat) : Code → Option AC
  | .skip => some .skip
  | .region _ ops draw => match trOpersG Q T nt ops ops.toList with
    | some as => match draw with
      | false => some (.region false as)
      | true => match regionOk ops (addClears (masks ops.toList []) as 0 as) with | true => some (.region true (addClears (masks ops.toList []) as 0 as)) | false => none
    | none => none
  | .seq a b => match trCodeG Q T nt a, trCodeG Q T nt b with | some x, some y => some (.seq x y) | _, _ => none
  | .cond c a b => match trOpd T c, trCodeG Q T nt a, trCodeG Q T nt b with | some c', some x, some y => some (.cond (T.isGone c) c' x y) | _, _, _ => none
  | .block id b => match trCodeG Q T nt b with | some x => some (.block id x) | none => none
  | .loop b => match trCodeG Q T nt b with | some x => some (.loop x) | none => none
  | .exit id => some (.exit id)
  | .ret => some .ret
  | _ => none
def trResG (Q : Tab) (T : Tell) : List ResultVar → Option (List ARes)
  | [] => some []
  | .tmp t :: rs => match T.K t, trResG Q T rs with | true, some xs => some (.tmp t :: xs) | _, _ => none
  | .cell a t :: rs => match T.K a, tyAggG Q t, tySizeG Q t, trResG Q T rs with | true, some g, some sz, some xs => some (.cell a g sz :: xs) | _, _, _, _ => none
def trFnG (Q : Tab) (T : Tell) (fn : Func) : Option AFn :=
  match fn.body with
  | some c => match trCodeG Q T fn.ntmps c, trResG Q T fn.results.toList with
    | some x, some rs => match keepsParams T (fn.params.size + fn.nfree) && Nat.ble (fn.params.size + fn.nfree) fn.ntmps with
      | true => some ⟨fn.params.size + fn.nfree, x, rs⟩
      | false => none
    | _, _ => none
  | none => none
section
variable (P : Program)
theorem tyAggG_of (t : TypeId) : tyAggG (Tab.of P) t = tyAgg P t := rfl
theorem tySizeG_of (t : TypeId) : tySizeG (Tab.of P) t = tySize P t := by
  show (match tiOf P t with | some i => some i.size | none => none) = _
  rw [tiOf, tySize]; cases P.info? t <;> rfl
theorem tyZeroG_of (t : TypeId) : tyZeroG (Tab.of P) t = tyZero P t := by
  show (match tiOf P t with | some i => (match i.zero with | some z => constCells z.cells.toList | none => none) | none => none) = _
  rw [tiOf, tyZero]; cases P.info? t <;> rfl
theorem tyZeroVG_of (t : TypeId) : tyZeroVG (Tab.of P) t = tyZeroV P t := by
  show (match tiOf P t with | some i => (match i.zero with | some z => zeroPV z | none => none) | none => none) = _
  rw [tiOf, tyZeroV]; cases P.info? t <;> rfl
theorem tyElemG_of (t : TypeId) : tyElemG (Tab.of P) t = tyElem P t := by
  rw [tyElemG, tyElem]
  show (match P.underlying t with | some (.slice e) => (match tiOf P e with | some i => (match Nat.beq i.size 0 || Nat.beq i.bytes 0 with | true => none | false => some (e, i.size, i.bytes)) | none => none) | _ => none) = _
  cases P.underlying t with
  | none => rfl
  | some d =>
    cases d <;> first
      | rfl
      | (rename_i e
         show (match tiOf P e with | some i => (match Nat.beq i.size 0 || Nat.beq i.bytes 0 with | true => none | false => some (e, i.size, i.bytes)) | none => none) = (match P.info? e with | some i => (match Nat.beq i.size 0 || Nat.beq i.bytes 0 with | true => none | false => some (e, i.size, i.bytes)) | none => none)
         rw [tiOf]; cases P.info? e <;> rfl)
theorem trPlacesG_of : ∀ fs, trPlacesG (Tab.of P) fs = trPlaces P fs
  | [] => rfl
  | f :: fs => by
    rw [trPlacesG, trPlaces, trPlacesG_of fs]
    show (match tiOf P f.type, trPlaces P fs with | some i, some ps => some ((f.offset, i.size) :: ps) | _, _ => none) = _
    rw [tiOf]; cases P.info? f.type <;> cases trPlaces P fs <;> rfl
theorem binTyG_of (t : TypeId) : binTyG (Tab.of P) t = binTy P t := rfl
theorem boolTyG_of (t : TypeId) : boolTyG (Tab.of P) t = boolTy P t := rfl
theorem eqTagG_of (t : TypeId) : eqTagG (Tab.of P) t = eqTag P t := rfl
theorem trCallG_of (T : Tell) (d : Option Nat) (c : Call) : trCallG (Tab.of P) T d c = trCall P T d c := by
  unfold trCallG trCall
  simp only [tyElemG_of, tyZeroG_of]
  rfl
theorem trOpG_of (T : Tell) (d : Option Nat) (o : Op) : trOpG (Tab.of P) T d o = trOp P T d o := by
  cases o <;> (unfold trOpG trOp; simp only [tyAggG_of, tySizeG_of, tyZeroG_of, tyZeroVG_of, tyElemG_of, trPlacesG_of, binTyG_of, boolTyG_of, eqTagG_of, trCallG_of]) <;> first | done | rfl
theorem trOperG_of (T : Tell) (nt : Nat) (ops : Array Oper) (o : Oper) : trOperG (Tab.of P) T nt ops o = trOper P T nt ops o := by
  unfold trOperG trOper; simp only [trOpG_of]; rfl
theorem trOpersG_of (T : Tell) (nt : Nat) (ops : Array Oper) : ∀ os, trOpersG (Tab.of P) T nt ops os = trOpers P T nt ops os
  | [] => rfl
  | o :: os => by rw [trOpersG, trOpers, trOperG_of, trOpersG_of T nt ops os]; rfl
theorem trCodeG_of (T : Tell) (nt : Nat) : ∀ c, trCodeG (Tab.of P) T nt c = trCode P T nt c := by
  intro c
  induction c <;> (simp only [trCodeG, trCode, trOpersG_of]) <;> first | done | rfl | (simp only [*]; done) | (simp only [*]; rfl)
theorem trResG_of (T : Tell) : ∀ rs, trResG (Tab.of P) T rs = trRes P T rs
  | [] => rfl
  | .tmp t :: rs => by rw [trResG, trRes, trResG_of T rs]; rfl
  | .cell a t :: rs => by rw [trResG, trRes, trResG_of T rs, tyAggG_of, tySizeG_of]; rfl
theorem trFnG_of (T : Tell) (fn : Func) : trFnG (Tab.of P) T fn = trFn P T fn := by
  unfold trFnG trFn; simp only [trCodeG_of, trResG_of]; rfl
end
def nthO {α : Type} : List (Option α) → Nat → Option α
  | [], _ => none
  | x :: l, n => match n with | 0 => x | n + 1 => nthO l n
def nthB : List Bool → Nat → Bool
  | [], _ => false
  | x :: l, n => match n with | 0 => x | n + 1 => nthB l n
theorem nthO_eq {α : Type} : ∀ (l : List (Option α)) n, nthO l n = (l[n]?).join
  | [], n => rfl
  | x :: l, 0 => by cases x <;> rfl
  | x :: l, n + 1 => by rw [nthO, nthO_eq l n]; rfl
theorem nthB_eq : ∀ (l : List Bool) n, nthB l n = (l[n]?).getD false
  | [], n => rfl
  | x :: l, 0 => rfl
  | x :: l, n + 1 => by rw [nthB, nthB_eq l n]; rfl
def cutAt {α : Type} (n : Nat) (f g : Nat → α) (t : Nat) : α := match Nat.blt t n with | true => f t | false => g t
theorem cutO {α : Type} {f : Nat → Option α} {n : Nat} {l : List (Option α)} (h : (List.range n).map f = l) : cutAt n (nthO l) f = f := by
  funext t
  subst h
  rw [cutAt]
  split
  · rename_i ht
    have ht : t < n := Nat.le_of_ble_eq_true ht
    rw [nthO_eq, List.getElem?_map, List.getElem?_range ht]; rfl
  · rfl
theorem cutB {f : Nat → Bool} {n : Nat} {l : List Bool} (h : (List.range n).map f = l) : cutAt n (nthB l) f = f := by
  funext t
  subst h
  rw [cutAt]
  split
  · rename_i ht
    have ht : t < n := Nat.le_of_ble_eq_true ht
    rw [nthB_eq, List.getElem?_map, List.getElem?_range ht]; rfl
  · rfl
def tagAt : List (Nat × List Nat) → (Nat → Option (List Nat)) → Nat → Option (List Nat)
  | [], g, t => g t
  | x :: l, g, t => match Nat.beq x.1 t with | true => some x.2 | false => tagAt l g t
theorem tagAt_eq {f : Nat → Option (List Nat)} : ∀ l : List (Nat × List Nat), l.map (fun x => f x.1) = l.map (fun x => some x.2) → tagAt l f = f
  | [], _ => rfl
  | x :: l, h => by
    rw [List.map_cons, List.map_cons, List.cons.injEq] at h
    funext t
    rw [tagAt, tagAt_eq l h.2]
    split
    · rename_i hb; rw [← Nat.eq_of_beq_eq_true hb, h.1]
    · rfl
def Tab.mk' (P : Program) (n k : Nat) (lU : List (Option TypeDesc)) (lI : List (Option TI)) (lT : List (Nat × List Nat)) (lB lS : List Bool) : Tab := ⟨cutAt n (nthO lU) P.underlying, cutAt n (nthO lI) (tiOf P), tagAt lT (structTags P), cutAt k (nthB lB) (trBody P), cutAt k (nthB lS) (isBits P)⟩
theorem tab_eq {P : Program} {n k : Nat} {lU : List (Option TypeDesc)} {lI : List (Option TI)} {lT : List (Nat × List Nat)} {lB lS : List Bool} (h1 : (List.range n).map P.underlying = lU) (h2 : (List.range n).map (tiOf P) = lI) (h3 : lT.map (fun x => structTags P x.1) = lT.map (fun x => some x.2)) (h4 : (List.range k).map (trBody P) = lB) (h5 : (List.range k).map (isBits P) = lS) : Tab.mk' P n k lU lI lT lB lS = Tab.of P := by
  rw [Tab.mk', cutO h1, cutO h2, tagAt_eq lT h3, cutB h4, cutB h5]; rfl
theorem trT {P : Program} {Q : Tab} (hQ : Q = Tab.of P) {T : Tell} {fn : Func} {F : AFn} (h : trFnG Q T fn = some F) : trFn P T fn = some F := by
  rw [← trFnG_of, ← hQ]; exact h
def fltO (os : List AOper) : List Nat → Option (List Nat)
  | [] => some []
  | k :: ks => match fltO os ks with
    | some r => match usedOps os k with | true => some r | false => some (k :: r)
    | none => none
def annO : List AOper → Option (List BOp)
  | [] => some []
  | [o] => some [.op o]
  | o :: o' :: os => match fltO (o' :: os) (slotsOf o), annO (o' :: os) with
    | some ks, some r => match ks with | [] => some (.op o :: r) | k :: ks => some (.op o :: .kill (k :: ks) :: r)
    | _, _ => none
def annAll : List (List AOper) → Option (List (List BOp))
  | [] => some []
  | os :: l => match annO os, annAll l with | some r, some rs => some (r :: rs) | _, _ => none
theorem fltO_eq (os : List AOper) : ∀ ks, fltO os ks = some (ks.filter fun k => !(usedOps os k))
  | [] => rfl
  | k :: ks => by rw [fltO, fltO_eq os ks, List.filter_cons]; cases usedOps os k <;> rfl
theorem annO_eq : ∀ os, annO os = some (annot os)
  | [] => rfl
  | [o] => rfl
  | o :: o' :: os => by
    rw [annO, fltO_eq, annO_eq (o' :: os), annot]
    cases (slotsOf o).filter fun k => !(usedOps (o' :: os) k) <;> rfl
theorem annAll_eq : ∀ l, annAll l = some (l.map annot)
  | [] => rfl
  | os :: l => by rw [annAll, annO_eq, annAll_eq l]; rfl
def AllR (P : AProg) (R : Nat → List AOper) : Nat → List (List BOp) → Prop
  | _, [] => True
  | i, bs :: l => match l with
    | [] => ∀ d st, EV P (.region d (R i)) st = regK (runB P bs { per := st.per, reg := [], H := st.H, ed := st.ed })
    | _ :: _ => (∀ d st, EV P (.region d (R i)) st = regK (runB P bs { per := st.per, reg := [], H := st.H, ed := st.ed })) ∧ AllR P R (i + 1) l
theorem allR_from {P : AProg} {R : Nat → List AOper} : ∀ (l : List (List AOper)) i, (∀ k, k < l.length → l[k]? = some (R (i + k))) → AllR P R i (l.map annot)
  | [], _, _ => trivial
  | os :: l, i, h => by
      have h0 : ∀ d st, EV P (.region d (R i)) st = regK (runB P (annot os) { per := st.per, reg := [], H := st.H, ed := st.ed }) := fun d st => by
        have := h 0 (by simp)
        simp only [List.getElem?_cons_zero, Nat.add_zero, Option.some.injEq] at this
        exact rgA (by rw [this]) d st
      have h1 := allR_from (P := P) l (i + 1) fun k hk => by
        have := h (k + 1) (by simp; omega)
        rw [List.getElem?_cons_succ] at this
        rw [this]; congr 2; omega
      cases l with
      | nil => exact h0
      | cons x l => exact ⟨h0, h1⟩
theorem allR {P : AProg} {c : AC} {R : Nat → List AOper} {L : List (List BOp)} (hR : R = regAt c) (hL : annAll (regs c) = some L) : AllR P R 0 L := by
  rw [annAll_eq] at hL
  cases hL
  exact allR_from _ 0 fun k hk => by
    subst hR
    rw [List.getElem?_eq_getElem hk, Nat.zero_add, regAt, List.getD_eq_getElem?_getD, List.getElem?_eq_getElem hk]; rfl
theorem rrOf {P : AProg} {c : AC} {R : Nat → List AOper} {L L' : List (List BOp)} (hR : R = regAt c) (hL : annAll (regs c) = some L) (hL' : L = L') {p : AProg → (Nat → List AOper) → Prop} (h : ∀ P R, AllR P R 0 L' = p P R) : p P R := h P R ▸ hL' ▸ allR hR hL
end
section
inductive Kin : PV → PV → Prop
  | same (p : PV) : Kin p p
  | int (k : IntKind) (a b : Int) : Kin (.int k a) (.int k b)
  | bool (a b : Bool) : Kin (.bool a) (.bool b)
  | str (a b : ByteArray) : Kin (.str a) (.str b)
  | flt (k : FloatKind) (a b : Nat) : Kin (.flt k a) (.flt k b)
theorem Kin.trans {p q r : PV} (h : Kin p q) (h2 : Kin q r) : Kin p r := by
  cases h with
  | same => exact h2
  | int k a b => cases h2 <;> exact .int ..
  | bool a b => cases h2 <;> exact .bool ..
  | str a b => cases h2 <;> exact .str ..
  | flt k a b => cases h2 <;> exact .flt ..
def KinL (r r' : List PV) : Prop := r.length = r'.length ∧ ∀ (j : Nat) (p q : PV), r[j]? = some p → r'[j]? = some q → Kin p q
theorem KinL.refl (r : List PV) : KinL r r := ⟨rfl, fun j p q h1 h2 => by rw [h1] at h2; cases h2; exact .same p⟩
theorem KinL.nil : KinL [] [] := .refl []
theorem KinL.cons {p q : PV} {r r' : List PV} (h : Kin p q) (t : KinL r r') : KinL (p :: r) (q :: r') := ⟨by simp [t.1], fun j a b h1 h2 => by
  cases j with
  | zero => simp at h1 h2; subst h1; subst h2; exact h
  | succ j => exact t.2 j a b (by simpa using h1) (by simpa using h2)⟩
theorem KinL.trans {r s t : List PV} (h : KinL r s) (h2 : KinL s t) : KinL r t := ⟨h.1.trans h2.1, fun j p q k1 k2 => by
  have hj := (List.getElem?_eq_some_iff.1 k1).1
  have h3 := List.getElem?_eq_getElem (show j < s.length by rw [← h.1]; exact hj)
  exact (h.2 j _ _ k1 h3).trans (h2.2 j _ _ h3 k2)⟩
inductive KinB : Blk → Blk → Prop
  | same (b : Blk) : KinB b b
  | cells (s : Nat) (rows rows' : List (List PV)) (hl : rows.length = rows'.length) (h : ∀ (i : Nat) (r r' : List PV), rows[i]? = some r → rows'[i]? = some r' → KinL r r') : KinB (.cells s rows) (.cells s rows')
theorem KinB.of_cells {s : Nat} {rows : List (List PV)} {b : Blk} (h : KinB (.cells s rows) b) : ∃ rows', b = .cells s rows' ∧ rows.length = rows'.length ∧ ∀ (i : Nat) (r r' : List PV), rows[i]? = some r → rows'[i]? = some r' → KinL r r' := by
  cases h with
  | same => exact ⟨rows, rfl, rfl, fun i r r' h1 h2 => by rw [h1] at h2; cases h2; exact .refl r⟩
  | cells _ _ rows' hl h => exact ⟨rows', rfl, hl, h⟩
theorem KinB.trans {a b c : Blk} (h : KinB a b) (h2 : KinB b c) : KinB a c := by
  cases h with
  | same => exact h2
  | cells s rows rows' hl h =>
    obtain ⟨rows'', rfl, hl2, h3⟩ := h2.of_cells
    refine .cells s rows rows'' (hl.trans hl2) fun i r r' k1 k2 => ?_
    have hi := (List.getElem?_eq_some_iff.1 k1).1
    have k3 := List.getElem?_eq_getElem (show i < rows'.length by rw [← hl]; exact hi)
    exact (h i _ _ k1 k3).trans (h3 i _ _ k3 k2)
def KinH (H H' : Heap) : Prop := H.length = H'.length ∧ ∀ (i : Nat) (b b' : Blk), H[i]? = some b → H'[i]? = some b' → KinB b b'
theorem KinH.refl (H : Heap) : KinH H H := ⟨rfl, fun i b b' h1 h2 => by rw [h1] at h2; cases h2; exact .same b⟩
theorem KinH.trans {A B C : Heap} (h : KinH A B) (h2 : KinH B C) : KinH A C := ⟨h.1.trans h2.1, fun j p q k1 k2 => by
  have hj := (List.getElem?_eq_some_iff.1 k1).1
  have h3 := List.getElem?_eq_getElem (show j < B.length by rw [← h.1]; exact hj)
  exact (h.2 j _ _ k1 h3).trans (h2.2 j _ _ h3 k2)⟩
theorem KinH.at_ {H H' : Heap} (h : KinH H H') {id s : Nat} {rows : List (List PV)} (hH : H[id]? = some (.cells s rows)) : ∃ rows', H'[id]? = some (.cells s rows') ∧ rows.length = rows'.length ∧ ∀ (i : Nat) (r : List PV), rows[i]? = some r → ∃ r', rows'[i]? = some r' ∧ KinL r r' := by
  have hj := (List.getElem?_eq_some_iff.1 hH).1
  have h3 := List.getElem?_eq_getElem (show id < H'.length by rw [← h.1]; exact hj)
  obtain ⟨rows', e, hl, hr⟩ := (h.2 id _ _ hH h3).of_cells
  rw [e] at h3
  refine ⟨rows', h3, hl, fun i r k => ?_⟩
  have hi := (List.getElem?_eq_some_iff.1 k).1
  have k3 := List.getElem?_eq_getElem (show i < rows'.length by rw [← hl]; exact hi)
  exact ⟨_, k3, hr i _ _ k k3⟩
theorem KinH.set {H : Heap} {id s i : Nat} {rows : List (List PV)} {r r' : List PV} (hH : H[id]? = some (.cells s rows)) (hr : rows[i]? = some r) (h : KinL r r') : KinH H (H.set id (.cells s (rows.set i r'))) := by
  refine ⟨by simp, fun j b b' h1 h2 => ?_⟩
  have hj := (List.getElem?_eq_some_iff.1 hH).1
  by_cases e : id = j
  · subst e
    rw [List.getElem?_set_self hj] at h2
    rw [hH] at h1
    cases h1; cases h2
    refine .cells s _ _ (by simp) fun a p q k1 k2 => ?_
    have ha := (List.getElem?_eq_some_iff.1 hr).1
    by_cases e2 : i = a
    · subst e2
      rw [List.getElem?_set_self ha] at k2
      rw [hr] at k1
      cases k1; cases k2; exact h
    · rw [List.getElem?_set_ne e2, k1] at k2
      cases k2; exact .refl _
  · rw [List.getElem?_set_ne e, h1] at h2
    cases h2; exact .same _
mutual
def WT (H : Heap) (R : Nat → Prop) : Sh → PV → Prop
  | .int k, p => ∃ n, p = .int k n
  | .bool, p => ∃ b, p = .bool b
  | .str, p => ∃ s, p = .str s
  | .flt k, p => ∃ n, p = .flt k n
  | .slice es, p => ∃ id n rows, p = .sl id 0 n n ∧ R id ∧ H[id]? = some (.cells es.length rows) ∧ rows.length = n ∧ n ≤ 1048576 ∧ ∀ r ∈ rows, WTs H R es r
def WTs (H : Heap) (R : Nat → Prop) : List Sh → List PV → Prop
  | [], r => r = []
  | e :: es, r => ∃ p ps, r = p :: ps ∧ WT H R e p ∧ WTs H R es ps
end
theorem WTs.length {H : Heap} {R : Nat → Prop} : ∀ {es : List Sh} {r : List PV}, WTs H R es r → r.length = es.length
  | [], r, h => by simp only [WTs] at h; subst h; rfl
  | e :: es, r, h => by simp only [WTs] at h; obtain ⟨p, ps, rfl, _, h⟩ := h; simp [h.length]
mutual
theorem WT.kin {H H' : Heap} {R : Nat → Prop} (hk : KinH H H') : ∀ {e : Sh} {p q : PV}, WT H R e p → Kin p q → WT H' R e q
  | .int k, p, q, h, hq => by simp only [WT] at h ⊢; obtain ⟨n, rfl⟩ := h; cases hq <;> exact ⟨_, rfl⟩
  | .bool, p, q, h, hq => by simp only [WT] at h ⊢; obtain ⟨n, rfl⟩ := h; cases hq <;> exact ⟨_, rfl⟩
  | .str, p, q, h, hq => by simp only [WT] at h ⊢; obtain ⟨n, rfl⟩ := h; cases hq <;> exact ⟨_, rfl⟩
  | .flt k, p, q, h, hq => by simp only [WT] at h ⊢; obtain ⟨n, rfl⟩ := h; cases hq <;> exact ⟨_, rfl⟩
  | .slice es, p, q, h, hq => by
    simp only [WT] at h ⊢
    obtain ⟨id, n, rows, rfl, h1, h2, h3, h4, h5⟩ := h
    cases hq
    obtain ⟨rows', k1, k2, k3⟩ := hk.at_ h2
    refine ⟨id, n, rows', rfl, h1, k1, k2 ▸ h3, h4, fun r' hr' => ?_⟩
    obtain ⟨i, hi, e⟩ := List.mem_iff_getElem.1 hr'
    have hi2 : i < rows.length := by rw [k2]; exact hi
    obtain ⟨r2, m1, m2⟩ := k3 i _ (List.getElem?_eq_getElem hi2)
    rw [List.getElem?_eq_getElem hi, e] at m1
    cases m1
    exact WTs.kin hk (h5 _ (List.getElem_mem hi2)) m2
theorem WTs.kin {H H' : Heap} {R : Nat → Prop} (hk : KinH H H') : ∀ {es : List Sh} {r r' : List PV}, WTs H R es r → KinL r r' → WTs H' R es r'
  | [], r, r', h, hr => by
    simp only [WTs] at h ⊢; subst h
    exact List.length_eq_zero_iff.1 hr.1.symm
  | e :: es, r, r', h, hr => by
    simp only [WTs] at h ⊢
    obtain ⟨p, ps, rfl, h1, h2⟩ := h
    cases r' with
    | nil => have := hr.1; simp at this
    | cons q qs => exact ⟨q, qs, rfl, WT.kin hk h1 (hr.2 0 p q rfl rfl), WTs.kin hk h2 ⟨by simpa using hr.1, fun j a b k1 k2 => hr.2 (j + 1) a b (by simpa using k1) (by simpa using k2)⟩⟩
end
mutual
theorem WT.frame {H H' : Heap} {R R' : Nat → Prop} (hR : ∀ id, R id → R' id ∧ H'[id]? = H[id]?) : ∀ {e : Sh} {p : PV}, WT H R e p → WT H' R' e p
  | .int k, p, h => by simp only [WT] at h ⊢; exact h
  | .bool, p, h => by simp only [WT] at h ⊢; exact h
  | .str, p, h => by simp only [WT] at h ⊢; exact h
  | .flt k, p, h => by simp only [WT] at h ⊢; exact h
  | .slice es, p, h => by
    simp only [WT] at h ⊢
    obtain ⟨id, n, rows, rfl, h1, h2, h3, h4, h5⟩ := h
    exact ⟨id, n, rows, rfl, (hR id h1).1, (hR id h1).2.trans h2, h3, h4, fun r hr => WTs.frame hR (h5 r hr)⟩
theorem WTs.frame {H H' : Heap} {R R' : Nat → Prop} (hR : ∀ id, R id → R' id ∧ H'[id]? = H[id]?) : ∀ {es : List Sh} {r : List PV}, WTs H R es r → WTs H' R' es r
  | [], r, h => by simp only [WTs] at h ⊢; exact h
  | e :: es, r, h => by
    simp only [WTs] at h ⊢
    obtain ⟨p, ps, rfl, h1, h2⟩ := h
    exact ⟨p, ps, rfl, WT.frame hR h1, WTs.frame hR h2⟩
end
mutual
theorem WT.lend {X G : Heap} {R : Nat → Prop} {n : Nat} (hG : ∀ id, R id → G[n + id]? = (X[id]?).map (lendB n)) : ∀ {e : Sh} {p : PV}, WT X R e p → WT G (fun j => ∃ id, j = n + id ∧ R id) e (lendV n p)
  | .int k, p, h => by simp only [WT] at h ⊢; obtain ⟨m, rfl⟩ := h; exact ⟨m, by rw [lendV]⟩
  | .bool, p, h => by simp only [WT] at h ⊢; obtain ⟨m, rfl⟩ := h; exact ⟨m, by rw [lendV]⟩
  | .str, p, h => by simp only [WT] at h ⊢; obtain ⟨m, rfl⟩ := h; exact ⟨m, by rw [lendV]⟩
  | .flt k, p, h => by simp only [WT] at h ⊢; obtain ⟨m, rfl⟩ := h; exact ⟨m, by rw [lendV]⟩
  | .slice es, p, h => by
    simp only [WT] at h ⊢
    obtain ⟨id, m, rows, rfl, h1, h2, h3, h4, h5⟩ := h
    refine ⟨n + id, m, rows.map (lendL n), by rw [lendV], ⟨id, rfl, h1⟩, by rw [hG id h1, h2]; rfl, by simpa using h3, h4, fun r hr => ?_⟩
    obtain ⟨r0, hr0, rfl⟩ := List.mem_map.1 hr
    exact WTs.lend hG (h5 r0 hr0)
theorem WTs.lend {X G : Heap} {R : Nat → Prop} {n : Nat} (hG : ∀ id, R id → G[n + id]? = (X[id]?).map (lendB n)) : ∀ {es : List Sh} {r : List PV}, WTs X R es r → WTs G (fun j => ∃ id, j = n + id ∧ R id) es (lendL n r)
  | [], r, h => by simp only [WTs] at h ⊢; subst h; rw [lendL]
  | e :: es, r, h => by
    simp only [WTs] at h ⊢
    obtain ⟨p, ps, rfl, h1, h2⟩ := h
    exact ⟨_, _, by rw [lendL], WT.lend hG h1, WTs.lend hG h2⟩
end
theorem frz_whole (d : Nat) {H : Heap} {id n s : Nat} {rows : List (List PV)} (h : H[id]? = some (.cells s rows)) (hl : rows.length = n) : frz (d + 1) H (.sl id 0 n n) = .fz (rows.map (·.map (frz d H))) := by
  subst hl
  simp only [frz, h, beq_self_eq_true, Nat.zero_add, Nat.le_refl, decide_true, Bool.and_self, List.drop_zero, List.take_length]
mutual
theorem WT.frz_lend {X G : Heap} {R : Nat → Prop} {n : Nat} (hG : ∀ id, R id → G[n + id]? = (X[id]?).map (lendB n)) : ∀ {e : Sh} {p : PV}, WT X R e p → ∀ d, frz d G (lendV n p) = frz d X p
  | .int k, p, h, d => by simp only [WT] at h; obtain ⟨m, rfl⟩ := h; cases d <;> simp only [lendV, frz]
  | .bool, p, h, d => by simp only [WT] at h; obtain ⟨m, rfl⟩ := h; cases d <;> simp only [lendV, frz]
  | .str, p, h, d => by simp only [WT] at h; obtain ⟨m, rfl⟩ := h; cases d <;> simp only [lendV, frz]
  | .flt k, p, h, d => by simp only [WT] at h; obtain ⟨m, rfl⟩ := h; cases d <;> simp only [lendV, frz]
  | .slice es, p, h, d => by
    simp only [WT] at h
    obtain ⟨id, m, rows, rfl, h1, h2, h3, h4, h5⟩ := h
    cases d with
    | zero => simp only [lendV, frz]
    | succ d =>
      rw [lendV, frz_whole d h2 h3, frz_whole d (show G[n + id]? = some (.cells es.length (rows.map (lendL n))) by rw [hG id h1, h2]; rfl) (by simpa using h3)]
      congr 1
      rw [List.map_map]
      exact List.map_congr_left fun r hr => WTs.frz_lend hG (h5 r hr) d
theorem WTs.frz_lend {X G : Heap} {R : Nat → Prop} {n : Nat} (hG : ∀ id, R id → G[n + id]? = (X[id]?).map (lendB n)) : ∀ {es : List Sh} {r : List PV}, WTs X R es r → ∀ d, (lendL n r).map (frz d G) = r.map (frz d X)
  | [], r, h, d => by simp only [WTs] at h; subst h; rw [lendL]; rfl
  | e :: es, r, h, d => by
    simp only [WTs] at h
    obtain ⟨p, ps, rfl, h1, h2⟩ := h
    rw [lendL, List.map_cons, List.map_cons, WT.frz_lend hG h1 d, WTs.frz_lend hG h2 d]
end
mutual
theorem WT.frz_frame {X G : Heap} {R : Nat → Prop} (hG : ∀ id, R id → G[id]? = X[id]?) : ∀ {e : Sh} {p : PV}, WT X R e p → ∀ d, frz d G p = frz d X p
  | .int k, p, h, d => by simp only [WT] at h; obtain ⟨m, rfl⟩ := h; cases d <;> simp only [frz]
  | .bool, p, h, d => by simp only [WT] at h; obtain ⟨m, rfl⟩ := h; cases d <;> simp only [frz]
  | .str, p, h, d => by simp only [WT] at h; obtain ⟨m, rfl⟩ := h; cases d <;> simp only [frz]
  | .flt k, p, h, d => by simp only [WT] at h; obtain ⟨m, rfl⟩ := h; cases d <;> simp only [frz]
  | .slice es, p, h, d => by
    simp only [WT] at h
    obtain ⟨id, m, rows, rfl, h1, h2, h3, h4, h5⟩ := h
    cases d with
    | zero => simp only [frz]
    | succ d =>
      rw [frz_whole d h2 h3, frz_whole d (show G[id]? = some (.cells es.length rows) by rw [hG id h1, h2]) h3]
      congr 1
      exact List.map_congr_left fun r hr => WTs.frz_frame hG (h5 r hr) d
theorem WTs.frz_frame {X G : Heap} {R : Nat → Prop} (hG : ∀ id, R id → G[id]? = X[id]?) : ∀ {es : List Sh} {r : List PV}, WTs X R es r → ∀ d, r.map (frz d G) = r.map (frz d X)
  | [], r, h, d => by simp only [WTs] at h; subst h; rfl
  | e :: es, r, h, d => by
    simp only [WTs] at h
    obtain ⟨p, ps, rfl, h1, h2⟩ := h
    rw [List.map_cons, List.map_cons, WT.frz_frame hG h1 d, WTs.frz_frame hG h2 d]
end
mutual
theorem WT.inside {H : Heap} {R : Nat → Prop} : ∀ {e : Sh} {p : PV}, WT H R e p → WT H (fun j => R j ∧ j < H.length) e p
  | .int k, p, h => by simp only [WT] at h ⊢; exact h
  | .bool, p, h => by simp only [WT] at h ⊢; exact h
  | .str, p, h => by simp only [WT] at h ⊢; exact h
  | .flt k, p, h => by simp only [WT] at h ⊢; exact h
  | .slice es, p, h => by
    simp only [WT] at h ⊢
    obtain ⟨id, n, rows, rfl, h1, h2, h3, h4, h5⟩ := h
    exact ⟨id, n, rows, rfl, ⟨h1, (List.getElem?_eq_some_iff.1 h2).1⟩, h2, h3, h4, fun r hr => WTs.inside (h5 r hr)⟩
theorem WTs.inside {H : Heap} {R : Nat → Prop} : ∀ {es : List Sh} {r : List PV}, WTs H R es r → WTs H (fun j => R j ∧ j < H.length) es r
  | [], r, h => by simp only [WTs] at h ⊢; exact h
  | e :: es, r, h => by
    simp only [WTs] at h ⊢
    obtain ⟨p, ps, rfl, h1, h2⟩ := h
    exact ⟨p, ps, rfl, WT.inside h1, WTs.inside h2⟩
end
section
variable {P : AProg}
theorem loop_rel {body : AC} {σ : Type} (S : Int → σ → St) (ok : Int → σ → Prop) (F : σ → AExit × St) (lo n : Int)
    (hstep : ∀ i a, lo ≤ i → i < n → ok i a → ∃ st' a', EV P body (S i a) = some (.normal, st') ∧ (S i a).next st' = S (i + 1) a' ∧ ok (i + 1) a')
    (hend : ∀ i a, lo ≤ i → i = n → ok i a → EV P body (S i a) = some (F a) ∧ (F a).1 ≠ .normal) :
    ∀ i a, lo ≤ i → i ≤ n → ok i a → ∃ a', EV P (.loop body) (S i a) = some (F a') ∧ ok n a' := by
  intro i a h1 h2 h3
  generalize hm : (n - i).toNat = m
  induction m generalizing i a with
  | zero =>
    have : i = n := by omega
    subst this
    obtain ⟨k1, k2⟩ := hend i a h1 rfl h3
    refine ⟨a, ?_, h3⟩
    rw [EV_loop, k1]
    revert k2
    cases F a with
    | mk e st => intro k2; cases e <;> first | rfl | exact absurd rfl k2
  | succ m ih =>
    obtain ⟨st', a', k1, k2, k3⟩ := hstep i a h1 (by omega) h3
    obtain ⟨a2, k4, k5⟩ := ih (i + 1) a' (by omega) (by omega) k3 (by omega)
    refine ⟨a2, ?_, k5⟩
    rw [EV_loop, k1]
    dsimp only
    rw [k2]; exact k4
end
theorem trim_len0 (n : Nat) (roots : List PV) (H : Heap) (h : H.length = n) : trim n roots H [] = (H, []) := by
  simp only [trim]
  split
  · rw [← h, List.take_length]; rfl
  · rfl
def MarkOk (P : AProg) (f : Nat) (es : List Sh) (c : Nat) : Prop :=
  ∀ (R : Nat → Prop) (H : Heap) (p : PV) (k : Int), WT H R (.slice es) p → 0 ≤ k → k + 1048576 * c ≤ 4611686018427387904 →
    ∃ (k' : Int) (H' : Heap), ES P f [p, .int .i64 k] H = some (.int .i64 k', H', []) ∧ KinH H H' ∧ (∀ id, ¬R id → H'[id]? = H[id]?) ∧ k ≤ k' ∧ k' ≤ k + 1048576 * c
end
end Go.Av
end
