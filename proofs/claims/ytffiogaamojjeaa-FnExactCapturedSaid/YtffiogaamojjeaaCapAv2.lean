/- The evaluator of the machine's code that FnExactCaptured's proof uses, no condition. -/
import Derived.ChangeStays
import Derived.DataReads
import Derived.Laws.Sem
import Derived.Laws.StructEq
import Derived.LoopN
import Derived.OpenShut
import Derived.ProofKit
import Derived.WalkKit
import GoSem.ClaimChange
import Derived.Test.YtffiogaamojjeaaCapAv1
set_option linter.all false
section
namespace Go.Av
open Go
section
section
variable {P : Program} {G : Nat → Option (List PV)} {T : Tell} {nt : Nat} {w : World} {F : Nat → Prop} {m : Map} {st : St} {a : Act} {o : Oper}
theorem trBody_spec {f : FuncId} (h : trBody P f = true) (us : Array Value) : (callFunc f us).run P w = .ok (.enter f us) w := by
  unfold trBody at h
  split at h
  · rename_i fn hf
    simp only [Bool.and_eq_true, Bool.not_eq_true'] at h
    have hb : fn.body ≠ none := by intro e; simp [e] at h
    have hne : fn.name ≠ "runtime.NumGoroutine" := by simpa using h.2
    simp [callFunc, hf, hne, hb]
  · cases h
theorem map_args (xs : Array Operand) : (xs.map a.eval) = (xs.toList.map a.eval).toArray := by apply Array.ext'; simp
theorem run_copy {t u : TypeId} {x y : Operand} {c : Call} (ho : o.op = .call c) (hc : c.callee = .builtin .copy) (hat : c.argTypes.toList = [t, u]) (har : c.args.toList = [x, y]) :
    (execOp a.eval o).run P w = ((Builtin.copy_ #[t, u] o.type #[a.eval x, a.eval y]).run P w).andThen fun v w' => .ok (.value v) w' := by
  obtain ⟨callee, args, argTypes⟩ := c
  simp only at hc hat har
  subst hc
  have hargs : args = #[x, y] := by rw [← Array.toArray_toList (xs := args), har]
  have hats : argTypes = #[t, u] := by rw [← Array.toArray_toList (xs := argTypes), hat]
  subst hargs; subst hats
  simp [execOp, ho, resolve, invoke, builtin]
theorem s_copy (R : Rel G w F m st.H) {t u e : TypeId} {x y : Operand} {c : Call} (ho : o.op = .call c) (hc : c.callee = .builtin .copy) (hat : c.argTypes.toList = [t, u]) (har : c.args.toList = [x, y]) {sz by' : Nat} (he : tyElem P t = some (e, sz, by')) {C : Cl}
    {x' y' : Opd} (hx : RelV w F m (lens st.H) (x'.get G st) (a.eval x)) (hy : RelV w F m (lens st.H) (y'.get G st) (a.eval y)) {v : PV} {H' : Heap} {ed : Edges} (hev : evOp G C st (.copyS sz x' y') = some (v, H', ed)) : OpOk P G o a w F m st.H v H' false := by
  obtain ⟨hu, i, hi, hi2, hi3, hs0, hb0⟩ := tyElem_spec he
  simp only [evOp] at hev
  split at hev
  · rename_i id off len tot new hpx hn
    split at hev
    · rename_i s rows hH
      split at hev
      · rename_i hb
        simp only [Bool.and_eq_true, beq_iff_eq, decide_eq_true_eq] at hb
        obtain ⟨⟨⟨b1, b2⟩, b3⟩, b4⟩ := hb
        subst b3
        injection hev with hev
        injection hev with e1 e2
        injection e2 with e2 e3
        subst e1; subst e2
        subst hi2
        rw [hpx] at hx
        have hlens := lens_cells hH
        have hidl : id < st.H.length := (List.getElem?_eq_some_iff.1 hH).1
        obtain ⟨b', c', news, hyv, hfl, hsrc⟩ := rows_source R hy hn b4 hs0
        have hr := run_copy (P := P) (w := w) (a := a) ho hc hat har
        rw [hyv] at hr
        have none_ : ∀ (b : Option Addr) (c2 : Nat), a.eval x = .slice b len c2 → min new.length len = 0 → OpOk P G o a w F m st.H (.int .i64 (min new.length len : Nat)) (st.H.set id (.cells i.size (rows.take off ++ new.take len ++ rows.drop (off + min new.length len)))) false := by
          intro b c2 hxv h0
          have hf : (Builtin.firstCells i.size 0 (.slice b' new.length c')).run P w = .ok #[] w := by
            cases b' with
            | none => simp [Builtin.firstCells]
            | some ad => exact run_firstCells_some (P := P) w i.size 0 ad new.length c' [] (by simp) (by simp)
          have hrun : (Builtin.copy_ #[t, u] o.type #[.slice b len c2, .slice b' new.length c']).run P w = .ok (goInt 0) w := by
            cases b with
            | none => simp [Builtin.copy_, run_underlying hu, Builtin.lenOf, h0, sizeOf, typeInfo, hi, hf]
            | some ad => simp [Builtin.copy_, run_underlying hu, Builtin.lenOf, h0, sizeOf, typeInfo, hi, hf, storeCells]
          rw [hxv, hrun] at hr
          have hnt : new.take len = [] := by
            apply List.length_eq_zero_iff.1
            rw [List.length_take]
            omega
          rw [hnt, h0, Nat.add_zero, List.append_nil, List.take_append_drop]
          have hset : st.H.set id (.cells i.size rows) = st.H := by
            apply List.ext_getElem?
            intro j
            by_cases e : j = id
            · subst e; rw [List.getElem?_set_self hidl, hH]
            · rw [List.getElem?_set_ne (Ne.symm e)]
          rw [hset]
          exact OpOk.of hr R (Grow.refl ..) (.froz _ _ (.int _ _)) (by simp)
        generalize hxv : a.eval x = xv at hx
        cases hx with
        | froz _ _ hx => cases hx
        | slVirt _ hm hL => exact none_ none 0 hxv (by omega)
        | slOld _ _ _ _ b c hm hL hc => omega
        | sl _ _ _ _ blk o' cap s' b hm hL ht hcp hbb =>
          obtain ⟨e1, hca⟩ := R.block hH hm
          subst e1
          by_cases h0 : min new.length len = 0
          · exact none_ (some b) (cap - off) hxv h0
          · have hbs : b = ⟨blk, o' + off * i.size, none⟩ := by
              rcases hbb with h | h
              · omega
              · exact h
            subst hbs
            rcases hsrc with hn0 | ⟨ad, rfl, hcell⟩
            · rw [hn0] at h0; simp at h0
            obtain ⟨cur, t', c1, c2, c3⟩ := hca.cur
            have hvl : (news.take (min new.length len * i.size)).length = min new.length len * i.size := by
              rw [List.length_take, hfl.len]
              exact Nat.min_eq_left (Nat.mul_le_mul_right _ (Nat.min_le_left _ _))
            have hX : o' + off * i.size + (news.take (min new.length len * i.size)).length ≤ cur.size := by
              rw [hvl]
              have : off * i.size + min new.length len * i.size ≤ cap * i.size := by rw [← Nat.add_mul]; exact Nat.mul_le_mul_right _ (by omega)
              omega
            have hl : (rows.take off ++ new.take len ++ rows.drop (off + min new.length len)).length = rows.length := by simp; omega
            have hrow : ∀ (k : Nat) (r : List PV), (rows.take off ++ new.take len ++ rows.drop (off + min new.length len))[k]? = some r → (k < off ∨ off + min new.length len ≤ k) ∧ rows[k]? = some r ∨ off ≤ k ∧ k < off + min new.length len ∧ new[k - off]? = some r := by
              intro k r hk
              have hl1 : (rows.take off).length = off := by simp; omega
              have hl2 : (new.take len).length = min new.length len := by simp; omega
              by_cases g1 : k < off
              · rw [List.append_assoc, List.getElem?_append_left (by omega), List.getElem?_take, if_pos g1] at hk
                exact .inl ⟨.inl g1, hk⟩
              · by_cases g2 : k < off + min new.length len
                · rw [List.append_assoc, List.getElem?_append_right (by omega), hl1, List.getElem?_append_left (by omega), List.getElem?_take] at hk
                  split at hk
                  · exact .inr ⟨by omega, g2, hk⟩
                  · cases hk
                · rw [List.getElem?_append_right (by rw [List.length_append]; omega), List.getElem?_drop, List.length_append, hl1, hl2] at hk
                  rw [show off + min new.length len + (k - (off + min new.length len)) = k by omega] at hk
                  exact .inl ⟨.inr (by omega), hk⟩
            have hsp := R.splice hH hm c1 c2 (o' + off * i.size) (news.take (min new.length len * i.size)) hX (rows' := rows.take off ++ new.take len ++ rows.drop (off + min new.length len)) (by omega) (by rw [hl]; exact hca.room) (fun k r hk => by
                rcases hrow k r hk with ⟨_, h⟩ | ⟨_, _, h⟩
                · exact hca.size _ _ h
                · exact hfl.size r (List.mem_of_getElem? h))
              (fun hmono k r j p hk hj => by
                rw [hvl] at hmono
                rw [getElem?_splice _ _ _ _ (by simpa using hX), hvl]
                have hjs : j < i.size := by
                  have h5 := (List.getElem?_eq_some_iff.1 hj).1
                  rcases hrow k r hk with ⟨_, h⟩ | ⟨_, _, h⟩
                  · rw [hca.size _ _ h] at h5; exact h5
                  · rw [hfl.size r (List.mem_of_getElem? h)] at h5; exact h5
                rcases hrow k r hk with ⟨h4, h⟩ | ⟨h4, h5, h⟩
                · obtain ⟨v, q1, q2, q3⟩ := c3 k r j p h hj
                  refine ⟨v, ?_, q2, hmono _ _ q3⟩
                  rw [← Array.getElem?_toList] at q1
                  rcases h4 with h4 | h4
                  · have : k * i.size + i.size ≤ off * i.size := by
                      calc k * i.size + i.size = (k + 1) * i.size := by rw [Nat.add_mul]; omega
                        _ ≤ off * i.size := Nat.mul_le_mul_right _ h4
                    rw [if_pos (by omega)]
                    exact q1
                  · have : off * i.size + min new.length len * i.size ≤ k * i.size := by rw [← Nat.add_mul]; exact Nat.mul_le_mul_right _ h4
                    rw [if_neg (by omega), if_neg (by omega)]
                    exact q1
                · obtain ⟨v, q1, q2⟩ := hfl.rel _ r j p h hj
                  refine ⟨v, ?_, hfl.one v (List.mem_of_getElem? q1), hmono _ _ q2⟩
                  have h6 : (k - off) * i.size = k * i.size - off * i.size := Nat.sub_mul ..
                  have h7 : off * i.size ≤ k * i.size := Nat.mul_le_mul_right _ h4
                  have h8 : off * i.size + min new.length len * i.size ≥ k * i.size + i.size := by
                    calc k * i.size + i.size = (k + 1) * i.size := by rw [Nat.add_mul]; omega
                      _ ≤ (off + min new.length len) * i.size := Nat.mul_le_mul_right _ h5
                      _ = _ := by rw [Nat.add_mul]
                  rw [if_neg (by omega), if_pos (by omega)]
                  rw [show o' + k * i.size + j - (o' + off * i.size) = (k - off) * i.size + j by omega, List.getElem?_take, if_pos (by omega)]
                  exact q1)
            have hfc := run_firstCells_some (P := P) w i.size (min new.length len) ad new.length c' (news.take (min new.length len * i.size)) hvl (fun j v hj => by
              rw [List.getElem?_take] at hj
              split at hj
              · exact hcell j v hj
              · cases hj)
            have hst := run_storeCells_at P blk (o' + off * i.size) t' (news.take (min new.length len * i.size)) 0 cur w c1 (by rw [Nat.add_zero]; exact hX) (fun v hv => hfl.one v (List.mem_of_mem_take hv))
            simp only [Nat.add_zero] at hst
            have hrun : (Builtin.copy_ #[t, u] o.type #[.slice (some ⟨blk, o' + off * i.size, none⟩) len (cap - off), .slice (some ad) new.length c']).run P w =
                .ok (goInt (min new.length len : Nat)) (w.setRow blk (cur.toList.take (o' + off * i.size) ++ news.take (min new.length len * i.size) ++ cur.toList.drop (o' + off * i.size + (news.take (min new.length len * i.size)).length)).toArray) := by
              have hm' : Nat.min new.length len = min new.length len := rfl
              have hsz : (sizeOf e).run P w = .ok i.size w := by simp [sizeOf, typeInfo, hi]
              have ha0 : (#[t, u] : Array TypeId)[0]? = some t := rfl
              have ha1 : ∀ (p q : Value), (#[p, q] : Array Value)[0]? = some p := fun _ _ => rfl
              have ha2 : ∀ (p q : Value), (#[p, q] : Array Value)[1]? = some q := fun _ _ => rfl
              simp only [Builtin.copy_, ha0, ha1, ha2, Sem.run_bind, run_underlying hu, Result.andThen_ok, Builtin.lenOf, Sem.run_pure, hsz, hm', hfc, hst]
            rw [hxv, hrun] at hr
            exact OpOk.of hr hsp.1 hsp.2 (.froz _ _ (.int _ _)) (by simp)
      · cases hev
    · cases hev
  · cases hev
theorem bits_find {fn : Func} (h : fn.name = "math.Float64bits") : Extern.find fn = some Extern.MathFloatBits.float64bits := by
  unfold Extern.find
  simp only [h]
  kernel_rfl
theorem run_bits {f : FuncId} (h : isBits P f = true) (n : Nat) : (callFunc f #[.float .f64 n]).run P w = .ok (.value (.int .u64 n)) w := by
  unfold isBits at h
  split at h
  · rename_i fn hf
    simp only [Bool.and_eq_true, beq_iff_eq, Option.isNone_iff_eq_none] at h
    obtain ⟨⟨hb, hn⟩, hx⟩ := h
    have he : Extern.MathFloatBits.float64bits #[.float .f64 n] = pure (.int .u64 n) := rfl
    simp [callFunc, hf, hn, hb, hx, bits_find hn, he]
  · cases h
theorem run_minmax {x y : Operand} {c : Call} (ho : o.op = .call c) {mx : Bool} (hc : c.callee = .builtin (match mx with | true => .max | false => .min)) (har : c.args.toList = [x, y]) {k k' : IntKind} {p q : Int} (hx : a.eval x = .int k p) (hy : a.eval y = .int k' q) :
    (execOp a.eval o).run P w = .ok (.value (.int k (match mx with | true => if q > p then q else p | false => if q < p then q else p))) w := by
  obtain ⟨callee, args, argTypes⟩ := c
  simp only at hc har
  subst hc
  have hargs : args = #[x, y] := by rw [← Array.toArray_toList (xs := args), har]
  subst hargs
  cases mx <;> simp [execOp, ho, resolve, invoke, builtin, Builtin.max_, Builtin.min_, Builtin.max2, Builtin.min2, hx, hy]
theorem OpOk.toC {v : PV} {H H' : Heap} {ed : Edges} (h : OpOk P G o a w F m H v H' true) : OpOkC P G o a w F m H v H' ed true := fun K Q hk => h K Q fun cv w' F' m' h1 h2 h3 h4 => hk cv w' F' m' h1 h2 h3 h4 (fun h => by cases h)
theorem s_callC {C : Cl} (hC : ClOk P G C) (R : Rel G w F m st.H) (E : RelE T nt (RelV w F m (lens st.H)) st a) {c : Call} (ho : o.op = .call c) {f : Operand} (hcal : c.callee = .value f) {ao : AOp} (ht : trCall P T o.dst c = some ao) {v : PV} {H' : Heap} {ed : Edges} (he : evOp G C st ao = some (v, H', ed))
    : OpOkC P G o a w F m st.H v H' ed (quietOp ao) := by
  unfold trCall at ht
  simp only [hcal] at ht
  · split at ht
    · rename_i g hg
      have hfg : f = .func g := by
        unfold funcOpd at hg
        split at hg
        · injection hg with hg; rw [hg]
        · cases hg
      subst hfg
      split at ht
      · rename_i xs hb hx
        injection ht with ht
        subst ht
        have hargs := opds_sound R E hx
        refine OpOkC.call hC R hargs (f := g) (md := T.md o.dst) he ?_
        simp only [execOp, ho, resolve, hcal, Act.eval, Deferred.ofValue, invoke, Sem.run_bind, Sem.run_pure, Result.andThen_ok]
        rw [show (#[] : Array Value) ++ c.args.map a.eval ++ #[] = (c.args.toList.map a.eval).toArray by rw [map_args]; simp]
        exact trBody_spec hb _
      · rename_i xs hb hx
        unfold bitsOp at ht
        split at ht
        · rename_i y hbits
          injection ht with ht
          subst ht
          have hargs := opds_sound R E hx
          simp only [evOp] at he
          split at he
          · rename_i v' hv'
            simp only [Option.some.injEq, Prod.mk.injEq] at he
            obtain ⟨rfl, rfl, rfl⟩ := he
            simp only [List.map_cons, List.map_nil] at hargs
            obtain ⟨u, us, hus, hu, hnil⟩ := hargs.head
            have hus' : us = [] := by have := hnil.1; simpa using this
            subst hus'
            generalize y.get G st = py at hv' hu
            cases py <;> simp only [primV] at hv' <;> try (cases hv'; done)
            rename_i k n
            cases k <;> simp only [primV] at hv' <;> try (cases hv'; done)
            injection hv' with hv'
            subst hv'
            have hu := hu.flt_inv
            subst hu
            refine OpOk.toC (OpOk.same R (cv := .int .u64 n) ?_ (.froz _ _ (.int _ _)))
            simp only [execOp, ho, resolve, hcal, Act.eval, Deferred.ofValue, invoke, Sem.run_bind, Sem.run_pure, Result.andThen_ok]
            rw [show (#[] : Array Value) ++ c.args.map a.eval ++ #[] = (c.args.toList.map a.eval).toArray by rw [map_args]; simp, hus]
            exact run_bits hbits n
          · cases he
        · cases ht
      · cases ht
    · rename_i hne
      split at ht
      · rename_i y xs hy hx
        injection ht with ht
        subst ht
        have hargs := opds_sound R E hx
        have hf := opd_sound R E hy
        rw [evOp_callv] at he
        split at he
        · rename_i f caps hfc
          rw [hfc] at hf
          obtain ⟨cvs, hfv, hcaps⟩ := hf.fn_inv
          have hall := hargs.append hcaps
          have hbody : trBody P f = true := by
            unfold evCall at he
            split at he
            · split at he
              · rename_i v' hp; exact hC.bodyP _ _ _ hp
              · cases he
            · exact hC.bodyS _ _ _ _ he
            · split at he
              · rename_i v' X' ed' hp; exact hC.bodyS _ _ _ _ hp
              · cases he
          refine OpOkC.call hC R hall (f := f) (md := T.md o.dst) he ?_
          simp only [execOp, ho, resolve, hcal, hfv, Deferred.ofValue, invoke, Sem.run_bind, Sem.run_pure, Result.andThen_ok]
          rw [show (#[] : Array Value) ++ c.args.map a.eval ++ cvs.toArray = (c.args.toList.map a.eval ++ cvs).toArray by rw [map_args]; simp]
          exact trBody_spec hbody _
        · cases he
      · cases ht
theorem s_mm {C : Cl} (R : Rel G w F m st.H) (E : RelE T nt (RelV w F m (lens st.H)) st a) {c : Call} (ho : o.op = .call c) {mx : Bool} (hc : c.callee = .builtin (match mx with | true => .max | false => .min)) {ao : AOp}
    (ht : (match trOpds T c.args.toList with | some xs => mmOp xs mx | none => none) = some ao) {v : PV} {H' : Heap} {ed : Edges} (he : evOp G C st ao = some (v, H', ed)) : OpOk P G o a w F m st.H v H' (quietOp ao) := by
  split at ht
  · rename_i xs hx
    have hargs := opds_sound R E hx
    match xs, hargs, ht with
    | [x, y], hargs, ht =>
      simp only [mmOp] at ht
      injection ht with ht
      subst ht
      simp only [evOp] at he
      split at he
      · rename_i v' hv'
        simp only [Option.some.injEq, Prod.mk.injEq] at he
        obtain ⟨rfl, rfl, rfl⟩ := he
        simp only [List.map_cons, List.map_nil] at hargs
        obtain ⟨u, us, hus, hu, h2⟩ := hargs.head
        obtain ⟨u2, us2, hus2, hu2, hnil⟩ := h2.head
        have hus' : us2 = [] := by have := hnil.1; simpa using this
        subst hus'
        subst hus2
        obtain ⟨ax, ay, har, hax, hay⟩ : ∃ ax ay, c.args.toList = [ax, ay] ∧ a.eval ax = u ∧ a.eval ay = u2 := by
          match hl : c.args.toList, hus with
          | [ax, ay], hus => simp only [List.map_cons, List.map_nil, List.cons.injEq, and_true] at hus; exact ⟨ax, ay, rfl, hus.1, hus.2⟩
        generalize x.get G st = px at hv' hu
        generalize y.get G st = py at hv' hu2
        cases mx <;> cases px <;> simp only [mmV] at hv' <;> try (cases hv'; done)
        all_goals
          cases py <;> simp only [mmV] at hv' <;> try (cases hv'; done)
          injection hv' with hv'
          subst hv'
          have e1 := hu.int_inv
          have e2 := hu2.int_inv
          subst e1; subst e2
        · exact OpOk.same R (run_minmax ho (mx := false) hc har hax hay) (.froz _ _ (.int _ _))
        · exact OpOk.same R (run_minmax ho (mx := true) hc har hax hay) (.froz _ _ (.int _ _))
      · cases he
  · cases ht
theorem s_call {C : Cl} (hC : ClOk P G C) (R : Rel G w F m st.H) (E : RelE T nt (RelV w F m (lens st.H)) st a) {c : Call} (ho : o.op = .call c) {ao : AOp} (ht : trCall P T o.dst c = some ao) {v : PV} {H' : Heap} {ed : Edges} (he : evOp G C st ao = some (v, H', ed))
    : OpOk P G o a w F m st.H v H' (quietOp ao) := by
  unfold trCall at ht
  split at ht
  · rename_i f hcal
    exact (s_callC hC R E ho hcal (by unfold trCall; simp only [hcal]; exact ht) he).ok
  · rename_i b hcal
    split at ht
    · split at ht
      · rename_i t x hat har
        split at ht
        · rename_i e hu
          split at ht
          · rename_i y hy
            injection ht with ht
            subst ht
            have hv := opd_sound R E hy
            simp only [evOp] at he
            cases hq : y.get G st <;> rw [hq] at he hv <;> simp only at he <;> try (cases he; done)
            all_goals
              injection he with he
              injection he with e1 e2
              injection e2 with e2 e3
              subst e1; subst e2
              exact s_len R ho hcal hat har hu rfl hv
          · cases ht
        · rename_i hu
          split at ht
          · rename_i y hy
            injection ht with ht
            subst ht
            have hv := opd_sound R E hy
            simp only [evOp] at he
            cases hq : y.get G st <;> rw [hq] at he hv <;> simp only at he <;> try (cases he; done)
            injection he with he
            injection he with e1 e2
            injection e2 with e2 e3
            subst e1; subst e2
            exact s_lenS R ho hcal hat har hu hv.str_inv
          · cases ht
        · rename_i n e hu
          injection ht with ht
          subst ht
          simp only [evOp, Opd.get, Option.some.injEq, Prod.mk.injEq] at he
          obtain ⟨rfl, rfl, _⟩ := he
          refine OpOk.same R (cv := .int .i64 n) ?_ (.froz _ _ (.int _ _))
          rw [run_len (P := P) (w := w) (a := a) ho hcal hat har]
          simp [Builtin.len_, run_underlying hu, goInt]
        · cases ht
      · cases ht
    · split at ht
      · rename_i t u x y hat har
        split at ht
        · rename_i e sz by' x' y' he' hut hx hy
          split at ht
          · rename_i z hz
            split at ht
            · rename_i hzl
              injection ht with ht
              subst ht
              have hut' : u = t := Nat.eq_of_beq_eq_true hut
              subst hut'
              have hzl' : z.length = sz := Nat.eq_of_beq_eq_true hzl
              have hvx := opd_sound R E hx
              have hvy := opd_sound R E hy
              simp only [evOp] at he
              split at he
              · rename_i new hn hsz
                generalize hpx : x'.get G st = px at he hvx
                cases px <;> simp only [appendTo] at he <;> try (cases he; done)
                case nils =>
                  split at he
                  · rename_i hb
                    injection he with he
                    injection he with e1 e2
                    injection e2 with e2 e3
                    subst e1; subst e2
                    exact s_append_nil R ho hcal hat har he' hz hzl' hvx.nils_inv hvy hn hsz (of_decide_eq_true hb) (fun j hj => by
                      rcases Nat.lt_or_ge j st.H.length with h | h
                      · rw [List.getElem?_append_left h]
                      · rw [List.getElem?_eq_none (by simp; omega), List.getElem?_eq_none h]) (by simp) (.inl ⟨rfl, rfl⟩)
                  · cases he
                case sl id off len tot =>
                  split at he
                  · rename_i s rows hH
                    split at he
                    · rename_i hb
                      simp only [Bool.and_eq_true, beq_iff_eq, decide_eq_true_eq] at hb
                      obtain ⟨⟨⟨b1, b2⟩, b3⟩, b4⟩ := hb
                      subst b2
                      obtain ⟨k1, k2⟩ := s_append_sl R ho hcal hat har he' hz hzl' hvx hvy hn hsz hH b1 b3 b4
                      split at he
                      · rename_i hd
                        injection he with he
                        injection he with e1 e2
                        injection e2 with e2 e3
                        subst e1; subst e2
                        exact k1 (of_decide_eq_true hd)
                      · rename_i hd
                        have hd' : tot < off + len + new.length := by have := of_decide_eq_false hd; omega
                        split at he
                        · injection he with he
                          injection he with e1 e2
                          injection e2 with e2 e3
                          subst e1; subst e2
                          exact k2 hd' rfl
                        · cases he
                    · cases he
                  · cases he
              · cases he
            · cases ht
          · cases ht
        · cases ht
      · cases ht
    · split at ht
      · rename_i t u x y hat har
        split at ht
        · rename_i e sz by' x' y' hq hx hy
          injection ht with ht
          subst ht
          exact s_copy R ho hcal hat har hq (opd_sound R E hx) (opd_sound R E hy) he
        · cases ht
      · cases ht
    · exact s_mm R E ho (mx := true) hcal ht he
    · exact s_mm R E ho (mx := false) hcal ht he
    · cases ht
  · cases ht
theorem eqFields_sound {R : PV → Value → Prop} (hR : KeyLike R) (d : Nat) (xs ys : Array Value) : ∀ (fs : List Field) (i : Nat) (tags : List Nat) (ps qs : List PV) (b : Bool), eqTags P i fs = some tags → eqCells tags ps qs = some b →
    (∀ (k : Nat) (p : PV), ps[k]? = some p → ∃ v, xs[i + k]? = some v ∧ R p v) → (∀ (k : Nat) (p : PV), qs[k]? = some p → ∃ v, ys[i + k]? = some v ∧ R p v) → (Op.eqFields (d + 1) xs ys fs).run P w = .ok b w
  | [], i, tags, ps, qs, b, h1, h2, _, _ => by
    simp only [eqTags, Option.some.injEq] at h1
    subst h1
    cases ps <;> cases qs <;> simp only [eqCells] at h2 <;> try (cases h2; done)
    injection h2 with h2
    subst h2
    rfl
  | f :: fs, i, tags, ps, qs, b, h1, h2, hx, hy => by
    simp only [eqTags] at h1
    split at h1
    · rename_i t ts e1 e2 e3
      injection h1 with h1
      subst h1
      simp only [Bool.and_eq_true, Nat.beq_eq_true_eq, Bool.not_eq_true', beq_eq_false_iff_ne] at e2
      cases ps with
      | nil => simp [eqCells] at h2
      | cons p ps =>
        cases qs with
        | nil => simp [eqCells] at h2
        | cons q qs =>
          simp only [eqCells] at h2
          split at h2
          · rename_i b1 b2 c1 c2
            injection h2 with h2
            subst h2
            obtain ⟨v, v1, v2⟩ := hx 0 p rfl
            obtain ⟨u, u1, u2⟩ := hy 0 q rfl
            rw [Nat.add_zero] at v1 u1
            have hoff : f.offset = i := Nat.eq_of_beq_eq_true e2.1
            have ih := eqFields_sound hR d xs ys fs (i + 1) ts ps qs b2 e3 c2 (fun k r hk => by have := hx (k + 1) r (by simpa using hk); rwa [show i + (k + 1) = i + 1 + k by omega] at this) (fun k r hk => by have := hy (k + 1) r (by simpa using hk); rwa [show i + (k + 1) = i + 1 + k by omega] at this)
            have hag : (isAgg f.type).run P w = .ok false w := by
              rcases eqTag_spec e1 with ⟨_, k, hu⟩ | ⟨_, hu⟩ | ⟨_, hu⟩ <;> simp [isAgg, run_underlying hu]
            have hp1 : (part f.type xs f.offset).run P w = .ok v w := by simp [part, hag, hoff, v1]
            have hp2 : (part f.type ys f.offset).run P w = .ok u w := by simp [part, hag, hoff, u1]
            have heq : (Op.equalIn (d + 1) f.type v u).run P w = .ok b1 w := by
              obtain ⟨k1, k2, k3⟩ := hR p v v2
              obtain ⟨l1, l2, l3⟩ := hR q u u2
              rcases eqTag_spec e1 with ⟨rfl, k, hu⟩ | ⟨rfl, hu⟩ | ⟨rfl, hu⟩
              · cases p <;> cases q <;> simp only [eqCell] at c1 <;> try (cases c1; done)
                rw [k1 _ _ rfl, l1 _ _ rfl]
                split at c1
                · rename_i hk
                  have hk : _ = _ := of_decide_eq_true hk
                  subst hk
                  injection c1 with c1
                  subst c1
                  simp [Op.equalIn, run_underlying hu]
                · cases c1
              · cases p <;> cases q <;> simp only [eqCell] at c1 <;> try (cases c1; done)
                rw [k2 _ rfl, l2 _ rfl]
                injection c1 with c1
                subst c1
                simp [Op.equalIn, run_underlying hu]
              · cases p <;> cases q <;> simp only [eqCell] at c1 <;> try (cases c1; done)
                rw [k3 _ rfl, l3 _ rfl]
                injection c1 with c1
                subst c1
                simp [Op.equalIn, run_underlying hu]
            simp only [Op.eqFields, ne_eq, e2.2, not_false_eq_true, if_true, Sem.run_bind, hp1, hp2, heq, Result.andThen_ok]
            cases b1
            · simp
            · simp [ih]
          · cases h2
    · cases h1
theorem s_eqS (R : Rel G w F m st.H) {op : BinOp} {t t' : TypeId} {x y : Operand} (ho : o.op = .binOp op t x y t') {tags : List Nat} (ht : structTags P t = some tags) {neg : Bool} (hn : negOf op = some neg) {ps qs : List PV} (hx : RelV w F m (lens st.H) (.agg ps) (a.eval x)) (hy : RelV w F m (lens st.H) (.agg qs) (a.eval y)) {b : Bool} (hb : eqCells tags ps qs = some b) :
    OpOk P G o a w F m st.H (.bool (negB neg b)) st.H true := by
  unfold structTags at ht
  split at ht
  · rename_i fields hu
    split at ht
    · cases ht
    · rename_i hg
      simp only [Bool.or_eq_false_iff] at hg
      obtain ⟨xs, hxv, x1, x2⟩ := hx.agg_inv
      obtain ⟨ys, hyv, y1, y2⟩ := hy.agg_inv
      have hfo : P.fieldsOf t = fields := by simp [Program.fieldsOf, hu]
      have heq : (Op.equal t (.agg xs.toArray) (.agg ys.toArray)).run P w = .ok b w := by
        have := run_equalIn_struct (P := P) w 9999 t xs.toArray ys.toArray (by rw [hfo]; exact hu) hg.1
        rw [hfo] at this
        refine this.trans ?_
        exact eqFields_sound (w := w) (RelV.keyLike w F m (lens st.H)) 9998 xs.toArray ys.toArray fields.toList 0 tags ps qs b ht hb (fun k p hk => by obtain ⟨v, v1, v2⟩ := x1.get hk; exact ⟨v, by simpa using v1, v2⟩) (fun k p hk => by obtain ⟨v, v1, v2⟩ := y1.get hk; exact ⟨v, by simpa using v1, v2⟩)
      have hgd : ∀ op, (eqGuard op t x y (.agg xs.toArray) (.agg ys.toArray)).run P w = .ok () w := by
        intro op
        cases op <;> simp [eqGuard, run_program, hg.2]
      refine OpOk.same (cv := .bool (negB neg b)) R ?_ (.froz _ _ (.bool _))
      cases op <;> simp only [negOf] at hn <;> first
        | (cases hn; done)
        | (injection hn with hn
           subst hn
           simp only [execOp, ho, hxv, hyv, Sem.run_bind, hgd, binOp, heq, Result.andThen_ok, Sem.run_pure, negB])
  · cases ht
end
end
section
section
variable {P : Program} {G : Nat → Option (List PV)} {T : Tell} {nt : Nat} {w : World} {F : Nat → Prop} {m : Map} {st : St} {a : Act} {o : Oper}
theorem built_struct {t : TypeId} {fields : Array Field} (hu : P.underlying t = some (.struct fields)) {places : List (Nat × Nat)} (hp : trPlaces P fields.toList = some places) (xs : List (Nat × Value)) (zv : Value) (i : TypeInfo) (cells : Array Value)
    (hi : P.info? t = some i) (hz : i.zero = some zv) (hf : Instr.fill (fun k => places[k]?) zv.cells xs = some cells) : P.built t xs = some cells := by
  have hp' := trPlaces_sound hp
  simp only [Program.built, hi, hu, hz]
  rw [hp']
  simpa using hf
theorem built_array {t e : TypeId} {n : Nat} (hu : P.underlying t = some (.array n e)) {sz : Nat} (hs : tySize P e = some sz) (xs : List (Nat × Value)) (zv : Value) (i : TypeInfo) (cells : Array Value)
    (hi : P.info? t = some i) (hz : i.zero = some zv) (hf : Instr.fill (fun k => some (k * sz, sz)) zv.cells xs = some cells) : P.built t xs = some cells := by
  obtain ⟨ie, hie, hie2⟩ := tySize_spec hs
  subst hie2
  simp only [Program.built, hi, hu, hz, hie]
  exact hf
theorem op_sound {C : Cl} (hC : ClOk P G C) (R : Rel G w F m st.H) (E : RelE T nt (RelV w F m (lens st.H)) st a) {ao : AOp} (ht : trOp P T o.dst o.op = some ao) {v : PV} {H' : Heap} {ed : Edges} (he : evOp G C st ao = some (v, H', ed)) : OpOk P G o a w F m st.H v H' (quietOp ao) := by
  cases ho : o.op <;> rw [ho] at ht <;> simp only [trOp] at ht <;> try (cases ht; done)
  case move x =>
    split at ht
    · rename_i y hy
      injection ht with ht; subst ht
      simp only [evOp, Option.some.injEq, Prod.mk.injEq] at he
      obtain ⟨rfl, rfl, _⟩ := he
      exact OpOk.same R (by simp [execOp, ho]) (opd_sound R E hy)
    · cases ht
  case assign x =>
    split at ht
    · rename_i y hy
      injection ht with ht; subst ht
      simp only [evOp, Option.some.injEq, Prod.mk.injEq] at he
      obtain ⟨rfl, rfl, _⟩ := he
      exact OpOk.same R (by simp [execOp, ho]) (opd_sound R E hy)
    · cases ht
  case pick c x y =>
    split at ht
    · rename_i c' x' y' h1 h2 h3
      injection ht with ht; subst ht
      simp only [evOp] at he
      have hc := opd_sound R E h1
      split at he
      · rename_i t hct
        rw [hct] at hc
        have hcv := hc.bool_inv
        cases t with
        | true =>
          simp only [Option.some.injEq, Prod.mk.injEq] at he
          obtain ⟨rfl, rfl, _⟩ := he
          exact OpOk.same R (by simp [execOp, ho, hcv, asBool]) (opd_sound R E h2)
        | false =>
          simp only [Option.some.injEq, Prod.mk.injEq] at he
          obtain ⟨rfl, rfl, _⟩ := he
          exact OpOk.same R (by simp [execOp, ho, hcv, asBool]) (opd_sound R E h3)
      · cases he
    · cases ht
  case alloc t =>
    split at ht
    · rename_i z hz
      injection ht with ht; subst ht
      simp only [evOp, Option.some.injEq, Prod.mk.injEq] at he
      obtain ⟨rfl, rfl, _⟩ := he
      exact s_alloc R ho hz
    · cases ht
  case box t x =>
    split at ht
    · rename_i y hy
      injection ht with ht; subst ht
      simp only [evOp] at he
      split at he
      · rename_i hl
        simp only [Option.some.injEq, Prod.mk.injEq] at he
        obtain ⟨rfl, rfl, _⟩ := he
        exact s_box R ho (opd_sound R E hy) hl
      · cases he
    · cases ht
  case build t parts =>
    split at ht
    · rename_i z fields hz hu
      split at ht
      · rename_i places hp
        split at ht
        · rename_i ps hps
          injection ht with ht; subst ht
          simp only [evOp] at he
          split at he
          · rename_i hall
            split at he
            · rename_i cs hcs
              simp only [Option.some.injEq, Prod.mk.injEq] at he
              obtain ⟨rfl, rfl, _⟩ := he
              exact s_build R ho hz (built_struct hu hp) (trParts_sound R E hps) hall hcs
            · cases he
          · cases he
        · cases ht
      · cases ht
    · rename_i z n e hz hu
      split at ht
      · rename_i sz hs
        split at ht
        · rename_i ps hps
          injection ht with ht; subst ht
          simp only [evOp] at he
          split at he
          · rename_i hall
            split at he
            · rename_i cs hcs
              simp only [Option.some.injEq, Prod.mk.injEq] at he
              obtain ⟨rfl, rfl, _⟩ := he
              exact s_build R ho hz (built_array hu hs) (trParts_sound R E hps) hall hcs
            · cases he
          · cases he
        · cases ht
      · cases ht
    · cases ht
  case buildSlice t len parts =>
    split at ht
    · rename_i e sz by' hel
      split at ht
      · rename_i z ps hz hps hb
        split at ht
        · rename_i hzl
          injection ht with ht; subst ht
          simp only [evOp] at he
          split at he
          · rename_i rows hr
            simp only [Option.some.injEq, Prod.mk.injEq] at he
            obtain ⟨rfl, rfl, _⟩ := he
            exact s_buildSlice R E ho hel hz (Nat.eq_of_beq_eq_true hzl) hps (Nat.le_of_ble_eq_true hb) hr
          · cases he
        · cases ht
      · cases ht
    · cases ht
  case load t x =>
    split at ht
    · rename_i g sz y h1 h2 h3
      injection ht with ht; subst ht
      simp only [evOp] at he
      split at he
      · rename_i cs hcs
        split at he
        · rename_i v' hv
          simp only [Option.some.injEq, Prod.mk.injEq] at he
          obtain ⟨rfl, rfl, _⟩ := he
          exact s_load R ho h1 h2 (opd_sound R E h3) hcs hv
        · cases he
      · cases he
    · cases ht
  case store t x y =>
    split at ht
    · rename_i sz x' y' h1 h2 h3
      injection ht with ht; subst ht
      simp only [evOp] at he
      split at he
      · rename_i H1 ed1 hs
        simp only [Option.some.injEq, Prod.mk.injEq] at he
        obtain ⟨rfl, rfl, _⟩ := he
        exact s_store R ho h1 (opd_sound R E h2) (opd_sound R E h3) hs
      · cases he
    · cases ht
  case nilCheck x =>
    split at ht
    · rename_i y hy
      injection ht with ht; subst ht
      simp only [evOp] at he
      have hv := opd_sound R E hy
      generalize hq : y.get G st = q at he hv
      generalize hx : a.eval x = u at hv
      cases q <;> simp only at he <;> try (cases he; done)
      case ptr id row off tot =>
        simp only [Option.some.injEq, Prod.mk.injEq] at he
        obtain ⟨rfl, rfl, _⟩ := he
        have : ∃ ad, u = .pointer (some ad) := by
          cases hv with
          | froz _ _ h => cases h
          | ptr => exact ⟨_, rfl⟩
          | ptrOld => exact ⟨_, rfl⟩
        obtain ⟨ad, rfl⟩ := this
        exact OpOk.same R (by simp [execOp, ho, hx]) hv
      case fp cs off =>
        simp only [Option.some.injEq, Prod.mk.injEq] at he
        obtain ⟨rfl, rfl, _⟩ := he
        obtain ⟨blk, o', rfl, _⟩ := hv.fp_inv
        exact OpOk.same R (by simp [execOp, ho, hx]) hv
    · cases ht
  case binOp op t x y t' =>
    split at ht
    · rename_i x' y' h1 h2
      have hx := opd_sound R E h1
      have hy := opd_sound R E h2
      split at ht
      · rename_i hb
        injection ht with ht; subst ht
        simp only [evOp] at he
        split at he
        · rename_i v' hv
          simp only [Option.some.injEq, Prod.mk.injEq] at he
          obtain ⟨rfl, rfl, _⟩ := he
          exact s_bin R ho hb hx hy hv
        · cases he
      · split at ht
        · rename_i neg hn
          split at ht
          · rename_i hb
            injection ht with ht; subst ht
            simp only [evOp] at he
            split at he
            · rename_i p q hp hq
              simp only [Option.some.injEq, Prod.mk.injEq] at he
              obtain ⟨rfl, rfl, _⟩ := he
              rw [hp] at hx
              rw [hq] at hy
              exact s_eqB R ho hb hn hx.bool_inv hy.bool_inv
            · cases he
          · split at ht
            · rename_i tags htg
              injection ht with ht; subst ht
              simp only [evOp] at he
              split at he
              · rename_i ps qs hp hq
                split at he
                · rename_i b hb
                  simp only [Option.some.injEq, Prod.mk.injEq] at he
                  obtain ⟨rfl, rfl, _⟩ := he
                  rw [hp] at hx
                  rw [hq] at hy
                  exact s_eqS R ho htg hn hx hy hb
                · cases he
              · cases he
            · cases ht
        · cases ht
    · cases ht
  case unOp op t x =>
    split at ht
    · rename_i y hy
      injection ht with ht; subst ht
      simp only [evOp] at he
      split at he
      · rename_i v' hv
        simp only [Option.some.injEq, Prod.mk.injEq] at he
        obtain ⟨rfl, rfl, _⟩ := he
        exact s_un R ho (opd_sound R E hy) hv
      · cases he
    · cases ht
  case convert s d x =>
    split at ht
    · rename_i k0 k y h1 h2 h3
      injection ht with ht; subst ht
      simp only [evOp] at he
      split at he
      · rename_i k' n hn
        simp only [Option.some.injEq, Prod.mk.injEq] at he
        obtain ⟨rfl, rfl, _⟩ := he
        have := opd_sound R E h3
        rw [hn] at this
        exact s_conv R ho h1 h2 this.int_inv
      · cases he
    · rename_i k0 y h1 h2 h3
      injection ht with ht; subst ht
      simp only [evOp] at he
      split at he
      · rename_i v' hv'
        simp only [Option.some.injEq, Prod.mk.injEq] at he
        obtain ⟨rfl, rfl, _⟩ := he
        have := opd_sound R E h3
        generalize y.get G st = py at hv' this
        cases py <;> simp only [primV] at hv' <;> try (cases hv'; done)
        injection hv' with hv'
        subst hv'
        exact s_i2f R ho h1 h2 this.int_inv
      · cases he
    · rename_i e y h1 h2 h3
      split at ht
      · rename_i h4
        injection ht with ht; subst ht
        simp only [evOp] at he
        split at he
        · rename_i v' hv'
          simp only [Option.some.injEq, Prod.mk.injEq] at he
          obtain ⟨rfl, rfl, _⟩ := he
          exact s_bstr R ho h1 h4 h2 (opd_sound R E h3) hv'
        · cases he
      · cases ht
    · cases ht
  case makeFunc fn first captured =>
    split at ht
    · rename_i f xs hfirst hxs
      injection ht with ht; subst ht
      simp only [evOp] at he
      split at he
      · simp only [Option.some.injEq, Prod.mk.injEq] at he
        obtain ⟨rfl, rfl, _⟩ := he
        have h1 := opds_sound R E hxs
        have hf : first = #[] := by rw [← Array.toArray_toList (xs := first), hfirst]
        subst hf
        refine OpOk.same (cv := .func (.func f) #[] (captured.toList.map a.eval).toArray) R ?_ (.fn f _ _ h1.1 h1.2)
        simp only [execOp, ho, Instr.makeFunc, Sem.run_bind, Sem.run_pure, Result.andThen_ok, map_args]
        simp
      · cases he
    · cases ht
  case makeSlice t l c =>
    split at ht
    · rename_i e sz by' hel
      split at ht
      · rename_i z l' c' hz hl hc
        split at ht
        · rename_i hzl
          injection ht with ht; subst ht
          simp only [evOp] at he
          split at he
          · rename_i n n2 hln hcn
            split at he
            · rename_i hb
              simp only [Bool.and_eq_true, decide_eq_true_eq] at hb
              obtain ⟨⟨b1, b2⟩, b3⟩ := hb
              simp only [Option.some.injEq, Prod.mk.injEq] at he
              obtain ⟨rfl, rfl, _⟩ := he
              subst b2
              have hl1 := opd_sound R E hl
              have hc1 := opd_sound R E hc
              rw [hln] at hl1
              rw [hcn] at hc1
              obtain ⟨_, i, _, _, hby, _, hb0⟩ := tyElem_spec hel
              have hn : n < 9223372036854775808 := by
                have : n * 1 ≤ n * (by' : Int) := Int.mul_le_mul_of_nonneg_left (by omega) b1
                omega
              exact s_mkslice R ho hel hz (Nat.eq_of_beq_eq_true hzl) hl1.int_inv hc1.int_inv b1 b3 hn
            · cases he
          · cases he
        · cases ht
      · cases ht
    · cases ht
  case slice t x lo hi mx =>
    split at ht
    · cases ht
    · split at ht
      · rename_i hu
        split at ht
        · rename_i x' l' h' hx hlo hhi
          injection ht with ht; subst ht
          simp only [evOp] at he
          have hv := opd_sound R E hx
          split at he
          · rename_i s l hs hl
            split at he
            · rename_i h hh
              split at he
              · rename_i hb
                simp only [Bool.and_eq_true, decide_eq_true_eq] at hb
                obtain ⟨⟨b1, b2⟩, b3⟩ := hb
                simp only [Option.some.injEq, Prod.mk.injEq] at he
                obtain ⟨rfl, rfl, _⟩ := he
                rw [hs] at hv
                exact s_slice_str R ho hu hv.str_inv (bound_sound R E hlo hl) (bound_sound R E hhi hh) b1 b2 b3
              · cases he
            · cases he
          · cases he
        · cases ht
      · rename_i e hu
        split at ht
        · rename_i sz x' l' h' hsz hx hlo hhi
          injection ht with ht; subst ht
          simp only [evOp] at he
          have hv := opd_sound R E hx
          split at he
          · rename_i rows l hs hl
            split at he
            · rename_i h hh
              split at he
              · rename_i hb
                simp only [Bool.and_eq_true, decide_eq_true_eq] at hb
                obtain ⟨⟨⟨b1, b2⟩, b3⟩, b4⟩ := hb
                simp only [Option.some.injEq, Prod.mk.injEq] at he
                obtain ⟨rfl, rfl, _⟩ := he
                rw [hs] at hv
                exact s_slice_fz R ho hu hsz hv (bound_sound R E hlo hl) (bound_sound R E hhi hh) b1 b2 b3 b4
              · cases he
            · cases he
          · rename_i id off len tot l hs hl
            split at he
            · rename_i h hh
              split at he
              · rename_i hb
                simp only [Bool.and_eq_true, decide_eq_true_eq] at hb
                obtain ⟨⟨⟨b1, b2⟩, b3⟩, b4⟩ := hb
                simp only [Option.some.injEq, Prod.mk.injEq] at he
                obtain ⟨rfl, rfl, _⟩ := he
                rw [hs] at hv
                exact s_slice_sl R ho hu hsz hv (bound_sound R E hlo hl) (bound_sound R E hhi hh) b1 b2 b3 b4
              · cases he
            · cases he
          · cases he
        · cases ht
      · cases ht
  case fieldAddr t x k =>
    split at ht
    · rename_i fields hu
      split at ht
      · rename_i f hf
        split at ht
        · rename_i sz y hs hy
          split at ht
          · cases ht
          · rename_i hz
            injection ht with ht; subst ht
            have h0 : sz ≠ 0 := by intro e; subst e; simp at hz
            have hv := opd_sound R E hy
            simp only [evOp] at he
            generalize hq : y.get G st = q at he hv
            cases q <;> simp only at he <;> try (cases he; done)
            all_goals
              simp only [Option.some.injEq, Prod.mk.injEq] at he
              obtain ⟨rfl, rfl, _⟩ := he
              exact s_fieldA R ho hu hf hs h0 hv rfl
        · cases ht
      · cases ht
    · cases ht
  case field t x k =>
    split at ht
    · rename_i fields hu
      split at ht
      · rename_i f hf
        split at ht
        · rename_i g sz y hg hs hy
          injection ht with ht; subst ht
          have hv := opd_sound R E hy
          simp only [evOp] at he
          split at he
          · rename_i cs hcs
            split at he
            · rename_i v' hv'
              simp only [Option.some.injEq, Prod.mk.injEq] at he
              obtain ⟨rfl, rfl, _⟩ := he
              rw [hcs] at hv
              exact s_field R ho hu hf hg hs hv hv'
            · cases he
          · cases he
        · cases ht
      · cases ht
    · cases ht
  case indexAddr t x i =>
    split at ht
    · rename_i e sz by' x' i' hel hx hi
      injection ht with ht; subst ht
      have hvx := opd_sound R E hx
      have hvi := opd_sound R E hi
      simp only [evOp] at he
      split at he
      · rename_i k n hn
        rw [hn] at hvi
        split at he
        · rename_i h0
          have h0 := of_decide_eq_true h0
          split at he
          · rename_i rows hr
            split at he
            · rename_i r hrr
              split at he
              · rename_i hl
                simp only [Option.some.injEq, Prod.mk.injEq] at he
                obtain ⟨rfl, rfl, _⟩ := he
                rw [hr] at hvx
                exact s_index_fz R ho hel hvx hvi.int_inv h0 hrr (by simpa using hl)
              · cases he
            · cases he
          · rename_i id off len tot hr
            split at he
            · rename_i s rows hH
              split at he
              · rename_i hb
                simp only [Bool.and_eq_true, beq_iff_eq, decide_eq_true_eq] at hb
                obtain ⟨⟨⟨b1, b2⟩, b3⟩, b4⟩ := hb
                simp only [Option.some.injEq, Prod.mk.injEq] at he
                obtain ⟨rfl, rfl, _⟩ := he
                rw [hr] at hvx
                exact s_index_sl R ho hel hvx hvi.int_inv h0 hH b1 b2 b3
              · cases he
            · cases he
          · cases he
        · cases he
      · cases he
    · rename_i x' i' hel hx hi
      split at ht
      · rename_i n e hu
        split at ht
        · rename_i sz hs
          injection ht with ht; subst ht
          simp only [evOp] at he
          split at he
          · rename_i v' hv'
            simp only [Option.some.injEq, Prod.mk.injEq] at he
            obtain ⟨rfl, rfl, _⟩ := he
            exact s_indexP R ho hu hs (opd_sound R E hx) (opd_sound R E hi) hv'
          · cases he
        · cases ht
      · cases ht
    · cases ht
  case index t x i =>
    split at ht
    · rename_i n e hu
      split at ht
      · rename_i g sz x' i' hg hs hx hi
        injection ht with ht; subst ht
        have hvx := opd_sound R E hx
        have hvi := opd_sound R E hi
        simp only [evOp] at he
        split at he
        · rename_i cs k j hcs hj
          split at he
          · rename_i hb
            simp only [Bool.and_eq_true, decide_eq_true_eq] at hb
            split at he
            · rename_i v' hv'
              simp only [Option.some.injEq, Prod.mk.injEq] at he
              obtain ⟨rfl, rfl, _⟩ := he
              rw [hcs] at hvx
              rw [hj] at hvi
              exact s_indexV R ho hu hg hs hvx hvi.int_inv hb.1 hb.2 hv'
            · cases he
          · cases he
        · cases he
      · cases ht
    · cases ht
  case extract x i =>
    split at ht
    · rename_i y hy
      injection ht with ht; subst ht
      have hv := opd_sound R E hy
      simp only [evOp] at he
      split at he
      · rename_i vs hvs
        split at he
        · rename_i v' hv'
          simp only [Option.some.injEq, Prod.mk.injEq] at he
          obtain ⟨rfl, rfl, _⟩ := he
          rw [hvs] at hv
          obtain ⟨us, hu, h1⟩ := hv.tup_inv
          obtain ⟨u, u1, u2⟩ := h1.get hv'
          exact OpOk.same (cv := u) R (by simp [execOp, ho, Instr.extract, hu, u1]) u2
        · cases he
      · cases he
    · cases ht
  case makeMap t r =>
    split at ht
    · injection ht with ht; subst ht
      simp only [evOp, Option.some.injEq, Prod.mk.injEq] at he
      obtain ⟨rfl, rfl, _⟩ := he
      exact s_mkmap R ho
    · cases ht
  case lookup t x i ok =>
    split at ht
    · rename_i kt et hu
      split at ht
      · rename_i tag z x' i' hk hz hx hi
        injection ht with ht; subst ht
        have hvx := opd_sound R E hx
        have hvi := opd_sound R E hi
        simp only [evOp] at he
        split at he
        · rename_i es hes
          split at he
          · rename_i p hp
            simp only [Option.some.injEq, Prod.mk.injEq] at he
            obtain ⟨rfl, rfl, _⟩ := he
            exact s_lookup R ho hu hk hz hes hvx hvi hp
          · cases he
        · cases he
      · cases ht
    · cases ht
  case insert t mp k x =>
    split at ht
    · rename_i kt et hu
      split at ht
      · rename_i tag m' k' x' hk h1 h2 h3
        injection ht with ht; subst ht
        have hv1 := opd_sound R E h1
        simp only [evOp] at he
        split at he
        · rename_i id hid
          split at he
          · rename_i es hH
            split at he
            · rename_i hf
              simp only [Option.some.injEq, Prod.mk.injEq] at he
              obtain ⟨rfl, rfl, _⟩ := he
              rw [hid] at hv1
              exact s_insert R (.inl ho) hu hk hv1 (opd_sound R E h2) (opd_sound R E h3) hH hf
            · cases he
          · cases he
        · cases he
      · cases ht
    · cases ht
  case mapUpdate t mp k x =>
    split at ht
    · rename_i kt et hu
      split at ht
      · rename_i tag m' k' x' hk h1 h2 h3
        injection ht with ht; subst ht
        have hv1 := opd_sound R E h1
        simp only [evOp] at he
        split at he
        · rename_i id hid
          split at he
          · rename_i es hH
            split at he
            · rename_i hf
              simp only [Option.some.injEq, Prod.mk.injEq] at he
              obtain ⟨rfl, rfl, _⟩ := he
              rw [hid] at hv1
              exact s_insert R (.inr ho) hu hk hv1 (opd_sound R E h2) (opd_sound R E h3) hH hf
            · cases he
          · cases he
        · cases he
      · cases ht
    · cases ht
  case call c => exact s_call hC R E ho ht he
end
end
section
theorem mem_refsL {r : Nat} : ∀ {cs : List PV}, r ∈ refsL cs ↔ ∃ p ∈ cs, r ∈ refs p
  | [] => by simp [refsL]
  | c :: cs => by
    simp only [refsL, List.mem_append, mem_refsL (cs := cs), List.mem_cons, exists_eq_or_imp]
theorem mem_brefs_cells {r s : Nat} {rows : List (List PV)} : r ∈ brefs (.cells s rows) ↔ ∃ row ∈ rows, ∃ p ∈ row, r ∈ refs p := by
  simp only [brefs, List.mem_flatMap, mem_refsL]
theorem mem_brefs_map {r : Nat} {es : List (PV × PV)} : r ∈ brefs (.map es) ↔ ∃ e ∈ es, r ∈ refs e.1 ∨ r ∈ refs e.2 := by
  simp only [brefs, List.mem_flatMap, List.mem_append]
theorem refsL_nil {cs : List PV} (h : ∀ p ∈ cs, refs p = []) : refsL cs = [] := by
  cases hr : refsL cs with
  | nil => rfl
  | cons r rs =>
    obtain ⟨p, hp, hq⟩ := mem_refsL.1 (hr ▸ List.mem_cons_self : r ∈ refsL cs)
    rw [h p hp] at hq; cases hq
theorem RelF.refs {w : World} {F : Nat → Prop} {p : PV} {v : Value} (h : RelF w F p v) : Go.Av.refs p = [] := by
  have hl : ∀ {cs : List PV} {vs : List Value}, vs.length = cs.length → (∀ (i : Nat) (p : PV) (v : Value), cs[i]? = some p → vs[i]? = some v → Go.Av.refs p = []) → refsL cs = [] := by
    intro cs vs hl h
    refine refsL_nil fun p hp => ?_
    obtain ⟨i, hi⟩ := List.getElem?_of_mem hp
    have hlt : i < vs.length := by have := (List.getElem?_eq_some_iff.1 hi).1; omega
    exact h i p _ hi (List.getElem?_eq_getElem hlt)
  induction h <;> simp only [Go.Av.refs]
  · rename_i h1 _ _ ih; exact hl h1 ih
  · rename_i h1 _ ih; exact hl h1 ih
  · rename_i h1 _ ih; exact hl h1 ih
theorem RelV.refs_ne {w : World} {F : Nat → Prop} {m : Map} {L : Nat → Nat} {p : PV} {v : Value} (h : RelV w F m L p v) : ∀ r ∈ refs p, m r ≠ .unk := by
  have hl : ∀ {cs : List PV} {vs : List Value}, vs.length = cs.length → (∀ (i : Nat) (p : PV) (v : Value), cs[i]? = some p → vs[i]? = some v → ∀ r ∈ refs p, m r ≠ .unk) → ∀ r ∈ refsL cs, m r ≠ .unk := by
    intro cs vs hl h r hr
    obtain ⟨p, hp, hq⟩ := mem_refsL.1 hr
    obtain ⟨i, hi⟩ := List.getElem?_of_mem hp
    have hlt : i < vs.length := by have := (List.getElem?_eq_some_iff.1 hi).1; omega
    exact h i p _ hi (List.getElem?_eq_getElem hlt) r hq
  induction h with
  | froz p v h => rw [h.refs]; simp
  | agg cs vs h1 h2 h ih => exact hl h1 ih
  | tup cs vs h1 h ih => exact hl h1 ih
  | fn f cs vs h1 h ih => exact hl h1 ih
  | sl id off len tot blk o cap s b hm hL ht hc hb => intro r hr; simp [refs] at hr; subst hr; simp [hm]
  | slVirt id hm hL => intro r hr; simp [refs] at hr; subst hr; simp [hm]
  | slOld id off len tot b c hm hL hc => intro r hr; simp [refs] at hr; subst hr; exact hm
  | ptr id row off tot blk o cap s hm hL => intro r hr; simp [refs] at hr; subst hr; simp [hm]
  | ptrOld id row off tot a hm hL => intro r hr; simp [refs] at hr; subst hr; exact hm
  | mp id blk hm hL => intro r hr; simp [refs] at hr; subst hr; simp [hm]
  | mpOld id r hm hL => intro r' hr; simp [refs] at hr; subst hr; exact hm
theorem RelV.at_ {w : World} {F : Nat → Prop} {m m' : Map} {L L' : Nat → Nat} {p : PV} {v : Value} (h : RelV w F m L p v) : (∀ r ∈ refs p, m' r = m r ∧ L' r = L r) → RelV w F m' L' p v := by
  induction h with
  | froz p v h => intro _; exact .froz p v h
  | agg cs vs h1 h2 h ih => intro hr; exact .agg cs vs h1 h2 fun i p v hi hv => ih i p v hi hv fun r hq => hr r (mem_refsL.2 ⟨p, List.mem_of_getElem? hi, hq⟩)
  | tup cs vs h1 h ih => intro hr; exact .tup cs vs h1 fun i p v hi hv => ih i p v hi hv fun r hq => hr r (mem_refsL.2 ⟨p, List.mem_of_getElem? hi, hq⟩)
  | fn f cs vs h1 h ih => intro hr; exact .fn f cs vs h1 fun i p v hi hv => ih i p v hi hv fun r hq => hr r (mem_refsL.2 ⟨p, List.mem_of_getElem? hi, hq⟩)
  | sl id off len tot blk o cap s b hm hL ht hc hb => intro hr; obtain ⟨e1, e2⟩ := hr id (by simp [refs]); exact .sl id off len tot blk o cap s b (e1.trans hm) (e2.trans hL) ht hc hb
  | slVirt id hm hL => intro hr; obtain ⟨e1, e2⟩ := hr id (by simp [refs]); exact .slVirt id (e1.trans hm) (e2.trans hL)
  | slOld id off len tot b c hm hL hc => intro hr; obtain ⟨e1, e2⟩ := hr id (by simp [refs]); exact .slOld id off len tot b c (by rw [e1]; exact hm) (by omega) hc
  | ptr id row off tot blk o cap s hm hL => intro hr; obtain ⟨e1, e2⟩ := hr id (by simp [refs]); exact .ptr id row off tot blk o cap s (e1.trans hm) (e2.trans hL)
  | ptrOld id row off tot a hm hL => intro hr; obtain ⟨e1, e2⟩ := hr id (by simp [refs]); exact .ptrOld id row off tot a (by rw [e1]; exact hm) (by omega)
  | mp id blk hm hL => intro hr; obtain ⟨e1, e2⟩ := hr id (by simp [refs]); exact .mp id blk (e1.trans hm) (e2.trans hL)
  | mpOld id r hm hL => intro hr; obtain ⟨e1, e2⟩ := hr id (by simp [refs]); exact .mpOld id r (by rw [e1]; exact hm) (by omega)
section
variable {G : Nat → Option (List PV)} {w : World} {F : Nat → Prop} {m : Map} {H : Heap}
theorem Rel.lt_of_ne (R : Rel G w F m H) {id : Nat} (h : m id ≠ .unk) : id < H.length := by
  rcases Nat.lt_or_ge id H.length with h1 | h1
  · exact h1
  · exact absurd (R.fresh id h1) h
theorem Rel.bnd (R : Rel G w F m H) {p : PV} {v : Value} (h : RelV w F m (lens H) p v) : ∀ r ∈ refs p, r < H.length := fun r hr => R.lt_of_ne (h.refs_ne r hr)
theorem Rel.block_ne (R : Rel G w F m H) {id : Nat} {b : Blk} (hb : H[id]? = some b) (hm : m id ≠ .unk) : ∀ r ∈ brefs b, m r ≠ .unk := by
  intro r hr
  cases b with
  | cells s rows =>
    obtain ⟨row, h1, p, h2, h3⟩ := mem_brefs_cells.1 hr
    rcases R.cells id s rows hb with h | ⟨_, h⟩ | ⟨blk, o, cap, h, hc⟩
    · exact absurd h hm
    · subst h; cases h1
    · obtain ⟨cur, t, _, _, h4⟩ := hc.cur
      obtain ⟨i, hi⟩ := List.getElem?_of_mem h1
      obtain ⟨j, hj⟩ := List.getElem?_of_mem h2
      obtain ⟨v, _, _, hv⟩ := h4 i row j p hi hj
      exact hv.refs_ne r h3
  | map es =>
    obtain ⟨e, h1, h2⟩ := mem_brefs_map.1 hr
    rcases R.maps id es hb with h | ⟨blk, h, hc⟩
    · exact absurd h hm
    · obtain ⟨xs, clock, _, h3, h4, h5⟩ := hc.cur
      obtain ⟨i, hi⟩ := List.getElem?_of_mem h1
      have hlt : i < xs.length := by have := (List.getElem?_eq_some_iff.1 hi).1; omega
      rcases h2 with h2 | h2
      · exact (h4 i e _ hi (List.getElem?_eq_getElem hlt)).refs_ne r h2
      · exact (h5 i e _ hi (List.getElem?_eq_getElem hlt)).refs_ne r h2
theorem Rel.block_lt (R : Rel G w F m H) {id : Nat} {b : Blk} (hb : H[id]? = some b) (hm : m id ≠ .unk) : ∀ r ∈ brefs b, r < H.length := fun r hr => R.lt_of_ne (R.block_ne hb hm r hr)
end
def Map.restr (m : Map) (n : Nat) : Map := fun id => if id < n then m id else .unk
theorem Map.restr_ne {m : Map} {n id : Nat} (h : m.restr n id ≠ .unk) : id < n ∧ m id ≠ .unk ∧ m.restr n id = m id := by
  unfold Map.restr at *
  by_cases hl : id < n
  · simp only [hl, if_true] at *; exact ⟨trivial, h, trivial⟩
  · simp [hl] at h
theorem Map.restr_lt (m : Map) {n id : Nat} (h : id < n) : m.restr n id = m id := by simp [Map.restr, h]
theorem lens_take (H : Heap) {n id : Nat} (h : id < n) : lens (H.take n) id = lens H id := by
  simp [lens, h]
section
variable {G : Nat → Option (List PV)} {w : World} {F : Nat → Prop} {m : Map} {H : Heap}
theorem RelV.restr {p : PV} {v : Value} (h : RelV w F m (lens H) p v) {n : Nat} (hr : ∀ r ∈ refs p, r < n) : RelV w F (m.restr n) (lens (H.take n)) p v :=
  h.at_ fun r hq => ⟨Map.restr_lt m (hr r hq), lens_take H (hr r hq)⟩
theorem Rel.restr (R : Rel G w F m H) (n : Nat) (hc : ∀ id b r, id < n → m id ≠ .unk → H[id]? = some b → r ∈ brefs b → r < n) : Rel G w F (m.restr n) (H.take n) := by
  have hat : ∀ id b, (H.take n)[id]? = some b → id < n ∧ H[id]? = some b := by
    intro id b h
    rw [List.getElem?_take] at h
    split at h
    · exact ⟨by assumption, h⟩
    · cases h
  refine ⟨fun id s rows h => ?_, fun id es h => ?_, fun id h => ?_, fun id id' b o c s o' c' s' h1 h2 => ?_, fun b ⟨id, o, c, s, h⟩ => ?_, R.ltF, fun b ⟨id, o, c, s, h⟩ => ?_, R.glob⟩
  · obtain ⟨hn, h⟩ := hat id _ h
    rw [Map.restr_lt m hn]
    rcases R.cells id s rows h with k | k | ⟨blk, o, cap, k1, k2⟩
    · exact .inl k
    · exact .inr (.inl k)
    · refine .inr (.inr ⟨blk, o, cap, k1, k2.room, ?_, k2.size⟩)
      obtain ⟨cur, t, e1, e2, e3⟩ := k2.cur
      refine ⟨cur, t, e1, e2, fun i r j p hi hj => ?_⟩
      obtain ⟨v, q1, q2, q3⟩ := e3 i r j p hi hj
      exact ⟨v, q1, q2, q3.restr fun x hx => hc id _ x hn (by rw [k1]; simp) h (mem_brefs_cells.2 ⟨r, List.mem_of_getElem? hi, p, List.mem_of_getElem? hj, hx⟩)⟩
  · obtain ⟨hn, h⟩ := hat id _ h
    rw [Map.restr_lt m hn]
    rcases R.maps id es h with k | ⟨blk, k1, k2⟩
    · exact .inl k
    · obtain ⟨xs, clock, e1, e2, e3, e4⟩ := k2.cur
      have hb : ∀ e ∈ es, ∀ x, x ∈ refs e.1 ∨ x ∈ refs e.2 → x < n := fun e he x hx => hc id _ x hn (by rw [k1]; simp) h (mem_brefs_map.2 ⟨e, he, hx⟩)
      exact .inr ⟨blk, k1, xs, clock, e1, e2, fun i e x hi hj => (e3 i e x hi hj).restr fun r hr => hb e (List.mem_of_getElem? hi) r (.inl hr), fun i e x hi hj => (e4 i e x hi hj).restr fun r hr => hb e (List.mem_of_getElem? hi) r (.inr hr)⟩
  · simp only [List.length_take] at h
    by_cases hl : id < n
    · rw [Map.restr_lt m hl]; exact R.fresh id (by omega)
    · simp [Map.restr, hl]
  · have k1 := Map.restr_ne (m := m) (n := n) (id := id) (by rw [h1]; simp)
    have k2 := Map.restr_ne (m := m) (n := n) (id := id') (by rw [h2]; simp)
    exact R.inj _ _ _ _ _ _ _ _ _ (k1.2.2 ▸ h1) (k2.2.2 ▸ h2)
  · have k1 := Map.restr_ne (m := m) (n := n) (id := id) (by rw [h]; simp)
    exact R.lt b ⟨id, o, c, s, k1.2.2 ▸ h⟩
  · have k1 := Map.restr_ne (m := m) (n := n) (id := id) (by rw [h]; simp)
    exact R.apart b ⟨id, o, c, s, k1.2.2 ▸ h⟩
end
theorem Fwd.refl (m : Map) (H : Heap) : Fwd m H H [] := fun id b r _ hb hr _ => .inl ⟨b, hb, hr⟩
theorem Fwd.trans {w1 w2 : World} {F1 F2 : Nat → Prop} {m1 m2 : Map} {H H1 H2 : Heap} {e1 e2 : Edges} (a : Fwd m1 H H1 e1) (g : Grow w1 F1 m1 H1 w2 F2 m2 H2) (b : Fwd m2 H1 H2 e2) : Fwd m2 H H2 (e2 ++ e1) := by
  intro id blk r hm hb hr hlt
  rcases b id blk r hm hb hr hlt with ⟨b1, h1, h2⟩ | h
  · have hne : m1 id ≠ .unk := fun h => by
      have := g.fresh id h hm
      rw [List.getElem?_eq_none this] at h1; cases h1
    rcases a id b1 r hne h1 h2 hlt with h | h
    · exact .inl h
    · exact .inr (List.mem_append_right _ h)
  · exact .inr (List.mem_append_left _ h)
inductive Shape (H : Heap) : Heap → Edges → Prop
  | same : Shape H H []
  | new (b : Blk) : Shape H (H ++ [b]) []
  | set (id : Nat) (b0 b : Blk) (ed : Edges) (h0 : H[id]? = some b0) (h : ∀ r ∈ brefs b, id < r → r ∈ brefs b0 ∨ (id, r) ∈ ed) : Shape H (H.set id b) ed
def sharedOp : AOp → Bool
  | .call m _ _ => !modeQ m
  | .callv m _ _ => !modeQ m
  | _ => false
theorem mem_edgesTo {id r : Nat} {cs : List PV} {p : PV} (hp : p ∈ cs) (hr : r ∈ refs p) (h : id < r) : (id, r) ∈ edgesTo id cs := by
  unfold edgesTo
  exact List.mem_map.2 ⟨r, List.mem_filter.2 ⟨mem_refsL.2 ⟨p, hp, hr⟩, by simpa using h⟩, rfl⟩
theorem mem_edgesRows {id r : Nat} {new : List (List PV)} {row : List PV} {p : PV} (hrow : row ∈ new) (hp : p ∈ row) (hr : r ∈ refs p) (h : id < r) : (id, r) ∈ (new.map (edgesTo id)).flatten :=
  List.mem_flatten.2 ⟨_, List.mem_map.2 ⟨row, hrow, rfl⟩, mem_edgesTo hp hr h⟩
theorem Shape.rows {H : Heap} {id s : Nat} {rows rows' : List (List PV)} {ed : Edges} (h0 : H[id]? = some (.cells s rows))
    (h : ∀ row ∈ rows', ∀ p ∈ row, (∃ row0 ∈ rows, p ∈ row0) ∨ ∀ r ∈ refs p, id < r → (id, r) ∈ ed) : Shape H (H.set id (.cells s rows')) ed := by
  refine .set id _ _ _ h0 fun r hr hlt => ?_
  obtain ⟨row, h1, p, h2, h3⟩ := mem_brefs_cells.1 hr
  rcases h row h1 p h2 with ⟨row0, h4, h5⟩ | h
  · exact .inl (mem_brefs_cells.2 ⟨row0, h4, p, h5, h3⟩)
  · exact .inr (h r h3 hlt)
theorem storeAt_shape {H H' : Heap} {ed : Edges} {sz : Nat} {a x : PV} (h : storeAt H sz a x = some (H', ed)) : Shape H H' ed := by
  unfold storeAt at h
  split at h
  · split at h
    · rename_i s rows hH
      split at h
      · rename_i cs _ hr
        split at h
        · simp only [Option.some.injEq, Prod.mk.injEq] at h
          obtain ⟨rfl, rfl⟩ := h
          refine Shape.rows hH fun row' h1 p hp => ?_
          rcases List.mem_or_eq_of_mem_set h1 with h1 | rfl
          · exact .inl ⟨row', h1, hp⟩
          · rcases List.mem_append.1 hp with hp | hp
            · rcases List.mem_append.1 hp with hp | hp
              · exact .inl ⟨cs, List.mem_of_getElem? hr, List.mem_of_mem_take hp⟩
              · exact .inr fun r hr hlt => mem_edgesTo hp hr hlt
            · exact .inl ⟨cs, List.mem_of_getElem? hr, List.mem_of_mem_drop hp⟩
        · cases h
      · cases h
    · cases h
  · cases h
theorem appendTo_shape {H H' : Heap} {ed : Edges} {sz bytes : Nat} {x v : PV} {new : List (List PV)} (h : appendTo H sz bytes x new = some (v, H', ed)) : Shape H H' ed := by
  unfold appendTo at h
  split at h
  · split at h
    · simp only [Option.some.injEq, Prod.mk.injEq] at h
      obtain ⟨_, rfl, rfl⟩ := h
      exact .new _
    · cases h
  · split at h
    · rename_i s rows hH
      split at h
      · split at h
        · simp only [Option.some.injEq, Prod.mk.injEq] at h
          obtain ⟨_, rfl, rfl⟩ := h
          refine Shape.rows hH fun row h1 p hp => ?_
          rcases List.mem_append.1 h1 with h1 | h1
          · rcases List.mem_append.1 h1 with h1 | h1
            · exact .inl ⟨row, List.mem_of_mem_take h1, hp⟩
            · exact .inr fun r hr hlt => mem_edgesRows h1 hp hr hlt
          · exact .inl ⟨row, List.mem_of_mem_drop h1, hp⟩
        · split at h
          · simp only [Option.some.injEq, Prod.mk.injEq] at h
            obtain ⟨_, rfl, rfl⟩ := h
            refine Shape.rows hH fun row h1 p hp => ?_
            rcases List.mem_append.1 h1 with h1 | h1
            · exact .inl ⟨row, List.mem_of_mem_take h1, hp⟩
            · exact .inr fun r hr hlt => mem_edgesRows h1 hp hr hlt
          · cases h
      · cases h
    · cases h
  · cases h
theorem evOp_shape {G : Nat → Option (List PV)} {C : Cl} {st : St} {op : AOp} {v : PV} {H' : Heap} {ed : Edges} (he : evOp G C st op = some (v, H', ed)) (hs : sharedOp op = false) : Shape st.H H' ed := by
  have call : ∀ (md : Mode) (f : Nat) (args : List PV), modeQ md = true → evCall C st.H md f args = some (v, H', ed) → Shape st.H H' ed := by
    intro md f args hq he
    cases md with
    | shared => cases hq
    | lend => cases hq
    | pure =>
      unfold evCall at he
      simp only at he
      split at he
      · split at he
        · simp only [Option.some.injEq, Prod.mk.injEq] at he
          obtain ⟨_, rfl, rfl⟩ := he
          exact .same
        · cases he
      · cases he
  cases op
  case alloc => simp only [evOp, Option.some.injEq, Prod.mk.injEq] at he; obtain ⟨_, rfl, rfl⟩ := he; exact .new _
  case box =>
    simp only [evOp] at he; split at he
    · simp only [Option.some.injEq, Prod.mk.injEq] at he; obtain ⟨_, rfl, rfl⟩ := he; exact .new _
    · cases he
  case buildSlice =>
    simp only [evOp] at he; split at he
    · simp only [Option.some.injEq, Prod.mk.injEq] at he; obtain ⟨_, rfl, rfl⟩ := he; exact .new _
    · cases he
  case mkslice =>
    simp only [evOp] at he; split at he
    · split at he
      · simp only [Option.some.injEq, Prod.mk.injEq] at he; obtain ⟨_, rfl, rfl⟩ := he; exact .new _
      · cases he
    · cases he
  case mkmap => simp only [evOp, Option.some.injEq, Prod.mk.injEq] at he; obtain ⟨_, rfl, rfl⟩ := he; exact .new _
  case store =>
    simp only [evOp] at he; split at he
    · rename_i h; simp only [Option.some.injEq, Prod.mk.injEq] at he; obtain ⟨_, rfl, rfl⟩ := he; exact storeAt_shape h
    · cases he
  case append =>
    simp only [evOp] at he; split at he
    · exact appendTo_shape he
    · cases he
  case copyS =>
    simp only [evOp] at he; split at he
    · split at he
      · rename_i s rows hH
        split at he
        · simp only [Option.some.injEq, Prod.mk.injEq] at he; obtain ⟨_, rfl, rfl⟩ := he
          refine Shape.rows hH fun row h1 p hp => ?_
          rcases List.mem_append.1 h1 with h1 | h1
          · rcases List.mem_append.1 h1 with h1 | h1
            · exact .inl ⟨row, List.mem_of_mem_take h1, hp⟩
            · exact .inr fun r hr hlt => mem_edgesRows h1 hp hr hlt
          · exact .inl ⟨row, List.mem_of_mem_drop h1, hp⟩
        · cases he
      · cases he
    · cases he
  case insert =>
    simp only [evOp] at he; split at he
    · split at he
      · rename_i es hH
        split at he
        · simp only [Option.some.injEq, Prod.mk.injEq] at he; obtain ⟨_, rfl, rfl⟩ := he
          refine .set _ _ _ _ hH fun r hr hlt => ?_
          obtain ⟨e, h1, h2⟩ := mem_brefs_map.1 hr
          rcases List.mem_append.1 h1 with h1 | h1
          · exact .inl (mem_brefs_map.2 ⟨e, h1, h2⟩)
          · simp only [List.mem_singleton] at h1
            subst h1
            rcases h2 with h2 | h2
            · exact .inr (mem_edgesTo (cs := [_, _]) (by simp) h2 hlt)
            · exact .inr (mem_edgesTo (cs := [_, _]) (List.mem_cons_of_mem _ List.mem_cons_self) h2 hlt)
        · cases he
      · cases he
    · cases he
  case call m f args => exact call m f _ (by simpa [sharedOp] using hs) he
  case callv m x args =>
    rw [evOp_callv] at he
    split at he
    · exact call m _ _ (by simpa [sharedOp] using hs) he
    · cases he
  all_goals
    simp only [evOp] at he
    repeat' split at he
    all_goals first
      | (cases he; done)
      | (simp only [Option.some.injEq, Prod.mk.injEq] at he; obtain ⟨_, rfl, rfl⟩ := he; exact .same)
theorem Shape.fwd {G : Nat → Option (List PV)} {w : World} {F : Nat → Prop} {m : Map} {H H' : Heap} {ed : Edges} (s : Shape H H' ed) (R : Rel G w F m H') : Fwd m H H' ed := by
  intro id b r hm hb hr hlt
  cases s with
  | same => exact .inl ⟨b, hb, hr⟩
  | new b' =>
    have h1 := R.block_lt hb hm r hr
    have h2 := (List.getElem?_eq_some_iff.1 hb).1
    simp only [List.length_append, List.length_singleton] at h1 h2
    rw [List.getElem?_append_left (by omega)] at hb
    exact .inl ⟨b, hb, hr⟩
  | set j b0 b' _ h0 h =>
    have hj := (List.getElem?_eq_some_iff.1 h0).1
    by_cases e : id = j
    · subst e
      rw [List.getElem?_set_self hj] at hb
      injection hb with hb; subst hb
      rcases h r hr hlt with h | h
      · exact .inl ⟨b0, h0, h⟩
      · exact .inr h
    · rw [List.getElem?_set_ne (Ne.symm e)] at hb
      exact .inl ⟨b, hb, hr⟩
theorem Shape.len {H H' : Heap} {ed : Edges} (s : Shape H H' ed) : H.length ≤ H'.length := by cases s <;> simp
end
section
theorem nbeq {a b : Nat} (h : ¬ a = b) : Nat.beq a b = false := Bool.eq_false_iff.2 fun h2 => h (Nat.eq_of_beq_eq_true h2)
theorem Env.get_put (e : Env) (n m : Nat) (v : PV) : (e.put n v).get m = if m = n then v else e.get m := by
  induction e with
  | nil =>
    simp only [Env.put, Env.get]
    by_cases h : n = m
    · subst h; simp
    · have := nbeq h
      rw [this]; simp [Ne.symm h]
  | cons q e ih =>
    obtain ⟨k, x⟩ := q
    simp only [Env.put]
    by_cases hk : k = n
    · subst hk
      rw [Nat.beq_refl]
      simp only [Env.get]
      by_cases h : k = m
      · subst h; simp
      · have := nbeq h
        rw [this]; simp [Ne.symm h]
    · have hb := nbeq hk
      rw [hb]
      simp only [Env.get]
      by_cases h : k = m
      · subst h; simp [hk]
      · have := nbeq h
        rw [this]; exact ih
theorem RelE.mono {T : Tell} {nt : Nat} {R R' : PV → Value → Prop} {st : St} {a : Act} (E : RelE T nt R st a) (h : ∀ p v, R p v → R' p v) : RelE T nt R' st a :=
  ⟨E.size, fun n => h _ _ (E.per n), fun n => h _ _ (E.reg n), E.perK, E.regK⟩
theorem RelE.heap {T : Tell} {nt : Nat} {R : PV → Value → Prop} {st : St} {a : Act} (E : RelE T nt R st a) (H : Heap) (ed : Edges) : RelE T nt R { st with H := H, ed := ed } a := ⟨E.size, E.per, E.reg, E.perK, E.regK⟩
theorem RelE.clear {T : Tell} {nt : Nat} {R : PV → Value → Prop} {st : St} {a : Act} (E : RelE T nt R st a) (hU : ∀ x, R .unk x) : RelE T nt R { st with reg := [] } a := ⟨E.size, E.per, fun n => hU _, E.perK, fun n _ => rfl⟩
theorem getD_set (t : Array Value) (d n : Nat) (v : Value) (h : d < t.size) : (t.setIfInBounds d v).getD n undef = if n = d then v else t.getD n undef := by
  by_cases e : n = d
  · subst e; simp [h]
  · simp [Array.getElem?_setIfInBounds_ne (Ne.symm e), e]
theorem RelE.put {T : Tell} {nt : Nat} {R : PV → Value → Prop} {st : St} {a : Act} (E : RelE T nt R st a) (hU : ∀ x, R .unk x) {d : Nat} (hd : d < nt) {v : PV} {cv : Value} (hv : R v cv) : RelE T nt R (st.put (some (T.K d, d)) v) (a.put (some d) cv) := by
  have hs := E.size
  have hg : ∀ n, (a.put (some d) cv).tmps.getD n undef = if n = d then cv else a.tmps.getD n undef := fun n => getD_set a.tmps d n cv (by omega)
  cases hk : T.K d with
  | true =>
    refine ⟨by simp [Act.put, hs], fun n => ?_, fun n => ?_, fun n hn => ?_, fun n hn => E.regK n hn⟩
    · rw [hg]; simp only [St.put]; rw [Env.get_put]
      by_cases e : n = d
      · subst e; simpa using hv
      · simpa [e] using E.per n
    · rw [hg]
      by_cases e : n = d
      · subst e; show R (st.reg.get n) _; rw [E.regK n hk]; exact hU _
      · simpa [e, St.put] using E.reg n
    · simp only [St.put]; rw [Env.get_put]
      by_cases e : n = d
      · subst e; rw [hk] at hn; cases hn
      · simpa [e] using E.perK n hn
  | false =>
    refine ⟨by simp [Act.put, hs], fun n => ?_, fun n => ?_, fun n hn => E.perK n hn, fun n hn => ?_⟩
    · rw [hg]
      by_cases e : n = d
      · subst e; show R (st.per.get n) _; rw [E.perK n hk]; exact hU _
      · simpa [e, St.put] using E.per n
    · rw [hg]; simp only [St.put]; rw [Env.get_put]
      by_cases e : n = d
      · subst e; simpa using hv
      · simpa [e] using E.reg n
    · simp only [St.put]; rw [Env.get_put]
      by_cases e : n = d
      · subst e; rw [hk] at hn; cases hn
      · simpa [e] using E.regK n hn
structure TrOper (P : Program) (T : Tell) (nt : Nat) (ops : Array Oper) (o : Oper) (ao : AOper) : Prop where
  op : trOp P T o.dst o.op = some ao.op
  dst : (o.dst = none ∧ ao.dst = none) ∨ ∃ d, o.dst = some d ∧ d < nt ∧ ao.dst = some (T.K d, d)
  guard : (o.guard = none ∧ ao.guard = none) ∨ ∃ j want oj d, o.guard = some (j, want) ∧ ops[j]? = some oj ∧ oj.dst = some d ∧ d < nt ∧ ao.guard = some ((match T.K d with | true => .per d | false => .reg d), want)
theorem trOper_spec {P : Program} {T : Tell} {nt : Nat} {ops : Array Oper} {o : Oper} {ao : AOper} (h : trOper P T nt ops o = some ao) : TrOper P T nt ops o ao := by
  unfold trOper at h
  simp only at h
  split at h
  · rename_i g' op hg hop
    have hguard : ∀ x : AOper, x.guard = g' → (o.guard = none ∧ x.guard = none) ∨ ∃ j want oj d, o.guard = some (j, want) ∧ ops[j]? = some oj ∧ oj.dst = some d ∧ d < nt ∧ x.guard = some ((match T.K d with | true => .per d | false => .reg d), want) := by
      intro x hx
      split at hg
      · rename_i hn
        injection hg with hg
        exact .inl ⟨hn, hx.trans hg.symm⟩
      · rename_i j want hs
        split at hg
        · rename_i oj hj
          split at hg
          · rename_i d hd
            split at hg
            · rename_i hlt
              injection hg with hg
              exact .inr ⟨j, want, oj, d, hs, hj, hd, by simpa [Nat.blt_eq] using hlt, hx.trans hg.symm⟩
            · cases hg
          · cases hg
        · cases hg
    split at h
    · rename_i hd
      injection h with h
      subst h
      exact ⟨hop, .inl ⟨hd, rfl⟩, hguard _ rfl⟩
    · rename_i d hd
      split at h
      · rename_i hlt
        injection h with h
        subst h
        exact ⟨hop, .inr ⟨d, hd, by simpa [Nat.blt_eq] using hlt, rfl⟩, hguard _ rfl⟩
      · cases h
  · cases h
theorem trOpers_spec {P : Program} {T : Tell} {nt : Nat} {ops : Array Oper} : ∀ {os : List Oper} {as : List AOper}, trOpers P T nt ops os = some as → as.length = os.length ∧ ∀ (i : Nat) (o : Oper) (ao : AOper), os[i]? = some o → as[i]? = some ao → TrOper P T nt ops o ao
  | [], as, h => by simp only [trOpers, Option.some.injEq] at h; subst h; simp
  | o :: os, as, h => by
    simp only [trOpers] at h
    split at h
    · rename_i a as' h1 h2
      injection h with h
      subst h
      obtain ⟨k1, k2⟩ := trOpers_spec h2
      refine ⟨by simp [k1], fun i o' ao hi ha => ?_⟩
      cases i with
      | zero =>
        simp only [List.getElem?_cons_zero, Option.some.injEq] at hi ha
        subst hi; subst ha
        exact trOper_spec h1
      | succ i => exact k2 i o' ao (by simpa using hi) (by simpa using ha)
    · cases h
theorem St.put_H (st : St) (d : Option (Bool × Nat)) (v : PV) : (st.put d v).H = st.H := by
  match d with
  | none => rfl
  | some (true, n) => rfl
  | some (false, n) => rfl
theorem St.put_ed (st : St) (d : Option (Bool × Nat)) (v : PV) : (st.put d v).ed = st.ed := by
  match d with
  | none => rfl
  | some (true, n) => rfl
  | some (false, n) => rfl
structure Inv (G : Nat → Option (List PV)) (T : Tell) (nt : Nat) (w0 : World) (F0 : Nat → Prop) (m0 : Map) (H0 : Heap) (d0 : List Deferred) (st : St) (a : Act) (w : World) (F : Nat → Prop) (m : Map) : Prop where
  rel : Rel G w F m st.H
  env : RelE T nt (RelV w F m (lens st.H)) st a
  grow : Grow w0 F0 m0 H0 w F m st.H
  fwd : Fwd m H0 st.H st.ed
  defers : a.defers = d0
theorem RelV.unk' {w : World} {F : Nat → Prop} {m : Map} {L : Nat → Nat} (x : Value) : RelV w F m L .unk x := .froz _ _ (.unk x)
theorem Act.put_defers' (a : Act) (d : Option Nat) (v : Value) : (a.put d v).defers = a.defers := by cases d <;> rfl
section
variable {P : Program} {G : Nat → Option (List PV)} {T : Tell} {nt : Nat} {ops : Array Oper} {o : Oper} {ao : AOper} {w : World} {F : Nat → Prop} {m : Map} {st : St} {a : Act}
theorem bool_inv {w : World} {F : Nat → Prop} {m : Map} {L : Nat → Nat} {b : Bool} {v : Value} (h : RelV w F m L (.bool b) v) : v = .bool b := by
  cases h with | froz _ _ h => cases h; rfl
theorem und_inv {w : World} {F : Nat → Prop} {m : Map} {L : Nat → Nat} {v : Value} (h : RelV w F m L .und v) : v = undef := by
  cases h with | froz _ _ h => cases h; rfl
theorem guard_sound (t : TrOper P T nt ops o ao) (hsz : a.tmps.size = nt) {R : PV → Value → Prop} (hRb : ∀ b v, R (.bool b) v → v = .bool b) (hRu : ∀ v, R .und v → v = undef)
    (hE : ∀ d, R ((match T.K d with | true => Opd.per d | false => Opd.reg d).get G st) (a.tmps.getD d undef) ∨ ∀ g w, ao.guard = some (g, w) → g ≠ (match T.K d with | true => Opd.per d | false => Opd.reg d)) {b : Bool} (h : wanted G st ao = some b) : Region.wanted o (yielded ops a.tmps) = b := by
  unfold wanted at h
  rcases t.guard with ⟨h1, h2⟩ | ⟨j, want, oj, d, h1, h2, h3, h4, h5⟩
  · simp only [h2, Option.some.injEq] at h
    subst h
    simp [Region.wanted, h1]
  · simp only [h5] at h
    have hlt : d < a.tmps.size := by rw [hsz]; exact h4
    have hd : a.tmps[d]? = some (a.tmps.getD d undef) := by rw [Array.getElem?_eq_getElem hlt]; simp [Array.getD, hlt]
    have hE' := (hE d).resolve_right fun hne => hne _ _ h5 rfl
    have hy : yielded ops a.tmps j = match a.tmps.getD d undef with | .bool b => some b | _ => none := by
      unfold yielded
      rw [h2]
      simp only [Option.bind_some, h3, hd]
      cases a.tmps.getD d undef <;> rfl
    unfold Region.wanted
    rw [h1]
    simp only
    rw [hy]
    split at h
    · rename_i b' hb
      rw [hb] at hE'
      simp only [hRb _ _ hE']
      have h := Option.some.inj h
      rw [← h]
      cases b' <;> cases want <;> rfl
    · rename_i hu
      rw [hu] at hE'
      simp only [hRu _ hE']
      have h := Option.some.inj h
      rw [← h]
      rfl
    · cases h
theorem get_dst (E : RelE T nt (RelV w F m (lens st.H)) st a) (d : Nat) : RelV w F m (lens st.H) ((match T.K d with | true => Opd.per d | false => Opd.reg d).get G st) (a.tmps.getD d undef) := by
  cases T.K d
  · exact E.reg d
  · exact E.per d
theorem op_soundC {C : Cl} (hC : ClOk P G C) (R : Rel G w F m st.H) (E : RelE T nt (RelV w F m (lens st.H)) st a) {aop : AOp} (ht : trOp P T o.dst o.op = some aop) {v : PV} {H' : Heap} {ed : Edges} (he : evOp G C st aop = some (v, H', ed)) (K : Act → World → Prop) (Q : Exit → Act → World → Prop)
    (hK : ∀ cv w' F' m', Rel G w' F' m' H' → Grow w F m st.H w' F' m' H' → RelV w' F' m' (lens H') v cv → (quietOp aop = true → Quiet w m st.H w' m' H') → Fwd m' st.H H' ed → K (a.put o.dst cv) w') : o.wp P a w K Q := by
  cases hs : sharedOp aop with
  | false => exact op_sound hC R E ht he K Q fun cv w' F' m' h1 h2 h3 h4 => hK cv w' F' m' h1 h2 h3 h4 ((evOp_shape he hs).fwd h1)
  | true =>
    have hq : quietOp aop = false := by
      cases aop <;> simp [sharedOp, quietOp] at hs ⊢ <;> exact hs
    have hcall : ∃ c f, o.op = .call c ∧ c.callee = .value f ∧ trCall P T o.dst c = some aop := by
      cases ho : o.op <;> rw [ho] at ht
      case call c =>
        simp only [trOp] at ht
        refine ⟨c, ?_⟩
        cases hc : c.callee with
        | value f => exact ⟨f, rfl, rfl, ht⟩
        | invoke => unfold trCall at ht; simp [hc] at ht
        | builtin b =>
          unfold trCall at ht
          simp only [hc] at ht
          exfalso
          repeat' split at ht
          all_goals first
            | (cases ht; done)
            | (injection ht with ht; subst ht; cases hs; done)
            | (unfold mmOp at ht; split at ht <;> first | (cases ht; done) | (injection ht with ht; subst ht; cases hs; done))
      all_goals
        exfalso
        simp only [trOp] at ht
        repeat' split at ht
        all_goals first
          | (cases ht; done)
          | (injection ht with ht; subst ht; cases hs; done)
    obtain ⟨c, f, h1, h2, h3⟩ := hcall
    exact s_callC hC R E h1 h2 h3 he K Q fun cv w' F' m' k1 k2 k3 k4 k5 => hK cv w' F' m' k1 k2 k3 k4 (k5 hq)
end
section
variable {P : Program} {G : Nat → Option (List PV)} {T : Tell} {nt : Nat} {ops : Array Oper} {w0 : World} {F0 : Nat → Prop} {m0 : Map} {H0 : Heap} {d0 : List Deferred}
theorem Inv.und {st : St} {a : Act} {w : World} {F : Nat → Prop} {m : Map} (I : Inv G T nt w0 F0 m0 H0 d0 st a w F m) {o : Oper} {ao : AOper} (t : TrOper P T nt ops o ao) : Inv G T nt w0 F0 m0 H0 d0 (st.put ao.dst .und) (a.put o.dst undef) w F m := by
  rcases t.dst with ⟨h1, h2⟩ | ⟨d, h1, h2, h3⟩
  · rw [h1, h2]; exact I
  · rw [h1, h3]
    have hE := I.env.put RelV.unk' h2 (v := .und) (cv := undef) (.froz _ _ .und)
    exact ⟨by rw [St.put_H]; exact I.rel, by rw [St.put_H]; exact hE, by rw [St.put_H]; exact I.grow, by rw [St.put_H, St.put_ed]; exact I.fwd, I.defers⟩
theorem Inv.val {st : St} {a : Act} {w : World} {F : Nat → Prop} {m : Map} (I : Inv G T nt w0 F0 m0 H0 d0 st a w F m) {o : Oper} {ao : AOper} (t : TrOper P T nt ops o ao) {v : PV} {H' : Heap} {ed : Edges} {cv : Value} {w' : World} {F' : Nat → Prop} {m' : Map}
    (R' : Rel G w' F' m' H') (g : Grow w F m st.H w' F' m' H') (hv : RelV w' F' m' (lens H') v cv) (hf : Fwd m' st.H H' ed) : Inv G T nt w0 F0 m0 H0 d0 (St.put { st with H := H', ed := ed ++ st.ed } ao.dst v) (a.put o.dst cv) w' F' m' := by
  have hE : RelE T nt (RelV w' F' m' (lens H')) { st with H := H', ed := ed ++ st.ed } a := (I.env.mono fun p v h => h.grow I.rel g).heap _ _
  have hg := I.grow.trans g
  have hfw := Fwd.trans I.fwd g hf
  rcases t.dst with ⟨h1, h2⟩ | ⟨d, h1, h2, h3⟩
  · rw [h1, h2]; exact ⟨R', hE, hg, hfw, I.defers⟩
  · rw [h1, h3]
    have hE' := hE.put RelV.unk' h2 hv
    exact ⟨by rw [St.put_H]; exact R', by rw [St.put_H]; exact hE', by rw [St.put_H]; exact hg, by rw [St.put_H, St.put_ed]; exact hfw, I.defers⟩
theorem ops_sound {C : Cl} (hC : ClOk P G C) {Q : Exit → Act → World → Prop} : ∀ {os : List Oper} {as : List AOper} {i : Nat} {st st' : St} {a : Act} {w : World} {F : Nat → Prop} {m : Map}, trOpers P T nt ops os = some as → (∀ k o, os[k]? = some o → ops[i + k]? = some o) → evOps G C as st = some st' → Inv G T nt w0 F0 m0 H0 d0 st a w F m →
    (∀ a1 w1 F1 m1, Inv G T nt w0 F0 m0 H0 d0 st' a1 w1 F1 m1 → Q .normal a1 w1) → wpOps P ops Q (List.range' i os.length) a w
  | [], as, i, st, st', a, w, F, m, ht, _, he, I, hQ => by
    simp only [trOpers, Option.some.injEq] at ht
    subst ht
    simp only [evOps, Option.some.injEq] at he
    subst he
    exact hQ a w F m I
  | o :: os, as, i, st, st', a, w, F, m, ht, hops, he, I, hQ => by
    simp only [trOpers] at ht
    split at ht
    · rename_i ao as' h1 h2
      injection ht with ht
      subst ht
      have t := trOper_spec h1
      have hi : ops[i]? = some o := by simpa using hops 0 o rfl
      rw [show (o :: os).length = os.length + 1 from rfl, List.range'_succ]
      have hrest : ∀ {st1 : St} {a1 : Act} {w1 : World} {F1 : Nat → Prop} {m1 : Map}, evOps G C as' st1 = some st' → Inv G T nt w0 F0 m0 H0 d0 st1 a1 w1 F1 m1 → wpOps P ops Q (List.range' (i + 1) os.length) a1 w1 := fun he' I' =>
        ops_sound hC h2 (fun k o' hk => by have := hops (k + 1) o' (by simpa using hk); rwa [show i + (k + 1) = i + 1 + k by omega] at this) he' I' hQ
      simp only [wpOps, hi]
      have hg : ∀ {b : Bool}, wanted G st ao = some b → Region.wanted o (yielded ops a.tmps) = b := fun hb => guard_sound (R := RelV w F m (lens st.H)) t I.env.size (fun _ _ => bool_inv) (fun _ => und_inv) (fun d => .inl (get_dst I.env d)) hb
      simp only [evOps] at he
      split at he
      · rename_i hw
        rw [hg hw]
        simp only [if_true]
        refine .inl ?_
        split at he
        · rename_i v H' ed hop
          refine op_soundC hC I.rel I.env t.op (evOper_spec.1 hop).1 _ _ fun cv w' F' m' R' g hv _ hf => ?_
          exact hrest he (I.val t R' g hv hf)
        · cases he
      · rename_i hw
        rw [hg hw]
        simp only [Bool.false_eq_true, if_false]
        exact hrest he (I.und t)
      · cases he
    · cases ht
end
end
section
section
variable {G : Nat → Option (List PV)} {C : Cl}
theorem bound_congr {s s' : St} {d : Int} {x : Option Opd} (h : ∀ y ∈ optOpd x, y.get G s = y.get G s') : bound G s d x = bound G s' d x := by
  cases x with
  | none => rfl
  | some y => simp only [bound, h y (by simp [optOpd])]
theorem evOp_congr {s s' : St} {op : AOp} (h : ∀ x ∈ opdsOf op, x.get G s = x.get G s') (hH : s.H = s'.H) : evOp G C s op = evOp G C s' op := by
  cases op
  case build zero parts =>
    simp only [opdsOf, List.mem_map, forall_exists_index, and_imp, forall_apply_eq_imp_iff₂] at h
    simp only [evOp, hH]
    rw [List.map_congr_left (g := fun p => (p.1, cellsOf (p.2.2.get G s'))) fun p hp => by rw [h p hp]]
    have : (parts.all fun p => (cellsOf (p.2.2.get G s)).length == p.2.1) = parts.all fun p => (cellsOf (p.2.2.get G s')).length == p.2.1 := by
      rw [Bool.eq_iff_iff, List.all_eq_true, List.all_eq_true]
      exact ⟨fun k p hp => by rw [← h p hp]; exact k p hp, fun k p hp => by rw [h p hp]; exact k p hp⟩
    rw [this]
  case buildSlice sz len zero parts =>
    simp only [opdsOf, List.mem_map, forall_exists_index, and_imp, forall_apply_eq_imp_iff₂] at h
    simp only [evOp, hH]
    rw [List.map_congr_left (g := fun p => (p.1, cellsOf (p.2.get G s'))) fun p hp => by rw [h p hp]]
  case mkfn f caps =>
    simp only [opdsOf] at h
    simp only [evOp, hH, List.map_congr_left h]
  case call m f args =>
    simp only [opdsOf] at h
    simp only [evOp, hH, List.map_congr_left h]
  case callv m x args =>
    simp only [opdsOf, List.mem_cons, forall_eq_or_imp] at h
    simp only [evOp_callv, hH, List.map_congr_left h.2, h.1]
  case slice sz x lo hi =>
    simp only [opdsOf, List.mem_cons, forall_eq_or_imp, List.mem_append] at h
    have h1 := fun d => bound_congr (d := d) (x := lo) fun y hy => h.2 y (.inl hy)
    have h2 := fun d => bound_congr (d := d) (x := hi) fun y hy => h.2 y (.inr hy)
    simp only [evOp, hH, h.1, h1, h2]
  case sliceS x lo hi =>
    simp only [opdsOf, List.mem_cons, forall_eq_or_imp, List.mem_append] at h
    have h1 := fun d => bound_congr (d := d) (x := lo) fun y hy => h.2 y (.inl hy)
    have h2 := fun d => bound_congr (d := d) (x := hi) fun y hy => h.2 y (.inr hy)
    simp only [evOp, hH, h.1, h1, h2]
  all_goals
    simp only [opdsOf, List.mem_cons, List.not_mem_nil, or_false, forall_eq_or_imp, forall_eq] at h
    simp only [evOp, hH, h]
theorem target_congr {s s' : St} {op : AOp} (h : ∀ x ∈ opdsOf op, x.get G s = x.get G s') : target G s op = target G s' op := by
  cases op <;> simp only [opdsOf, List.mem_cons, List.not_mem_nil, or_false, forall_eq_or_imp, forall_eq] at h <;> simp only [target, h]
theorem get_heap (s : St) (H : Heap) (x : Opd) : x.get G { s with H := H } = x.get G s := by cases x <;> rfl
theorem get_heap' (s : St) (H : Heap) : Opd.get G { s with H := H } = Opd.get G s := funext fun x => get_heap s H x
theorem bound_heap (s : St) (H : Heap) (d : Int) (x : Option Opd) : bound G { s with H := H } d x = bound G s d x := by cases x <;> simp only [bound, get_heap]
theorem noHeap_any {s : St} {op : AOp} (hn : noHeap op = true) {v : PV} {H' : Heap} {ed : Edges} (he : evOp G C s op = some (v, H', ed)) (H : Heap) : H' = s.H ∧ ed = [] ∧ evOp G C { s with H := H } op = some (v, H, []) := by
  cases op <;> simp only [noHeap, Bool.false_eq_true] at hn
  all_goals
    simp only [evOp, get_heap, get_heap', bound_heap] at he ⊢
    repeat' split at he
    all_goals first
      | (cases he; done)
      | (simp only [Option.some.injEq, Prod.mk.injEq] at he; obtain ⟨rfl, rfl, rfl⟩ := he; simp_all)
theorem refsL_of_nil {cs : List PV} (h : refsL cs = []) : ∀ p ∈ cs, refs p = [] := by
  intro p hp
  cases hr : refs p with
  | nil => rfl
  | cons r rs =>
    have : r ∈ refsL cs := mem_refsL.2 ⟨p, hp, by rw [hr]; exact List.mem_cons_self⟩
    rw [h] at this; cases this
theorem frz_bare_any : ∀ (d : Nat) (v : PV) (H H' : Heap), refs v = [] → frz d H v = frz d H' v
  | 0, _, _, _, _ => rfl
  | d + 1, v, H, H', h => by
    have hl : ∀ {cs : List PV}, refsL cs = [] → cs.map (frz d H) = cs.map (frz d H') := fun h => List.map_congr_left fun p hp => frz_bare_any d p H H' (refsL_of_nil h p hp)
    cases v <;> simp only [refs] at h <;> simp only [frz]
    case agg cs => rw [hl h]
    case tup cs => rw [hl h]
    case fn f cs => rw [hl h]
    all_goals cases h
theorem still_any {s : St} {op : AOp} (hn : canStill op = true) (hb : ∀ x ∈ opdsOf op, refs (x.get G s) = []) {v : PV} {H' : Heap} {ed : Edges} (he : evOp G C s op = some (v, H', ed)) (hv : refs v = []) (H : Heap) : H' = s.H ∧ ed = [] ∧ evOp G C { s with H := H } op = some (v, H, []) := by
  have hcall : ∀ (md : Mode) (f : Nat) (args : List PV), modeQ md = true → (∀ p ∈ args, refs p = []) → evCall C s.H md f args = some (v, H', ed) → H' = s.H ∧ ed = [] ∧ evCall C H md f args = some (v, H, []) := by
    intro md f args hq ha he
    cases md with
    | shared => cases hq
    | lend => cases hq
    | pure =>
      unfold evCall at he ⊢
      simp only at he ⊢
      rw [show args.map (frz 8 H) = args.map (frz 8 s.H) from List.map_congr_left fun p hp => frz_bare_any 8 p _ _ (ha p hp)]
      split at he
      · rename_i v' hp
        split at he
        · rename_i hc
          simp only [Option.some.injEq, Prod.mk.injEq] at he
          obtain ⟨rfl, rfl, rfl⟩ := he
          simp [hc]
        · cases he
      · cases he
  cases op <;> simp only [canStill, Bool.false_eq_true] at hn
  case load g sz x =>
    have hx := hb x (by simp [opdsOf])
    simp only [evOp, get_heap] at he ⊢
    generalize x.get G s = u at *
    cases u <;> simp only [refs] at hx <;> simp only [cellsAt] at he ⊢ <;> try (cases hx; done)
    all_goals
      repeat' split at he
      all_goals first
        | (cases he; done)
        | (simp only [Option.some.injEq, Prod.mk.injEq] at he; obtain ⟨rfl, rfl, rfl⟩ := he; simp_all)
  case slice sz x lo hi =>
    have hx := hb x (by simp [opdsOf])
    simp only [evOp, get_heap, bound_heap] at he ⊢
    generalize x.get G s = u at *
    cases u <;> simp only [refs] at hx <;> try (cases hx; done)
    all_goals
      repeat' split at he
      all_goals first
        | (cases he; done)
        | (simp only [Option.some.injEq, Prod.mk.injEq] at he; obtain ⟨rfl, rfl, rfl⟩ := he; simp_all)
  case indexA sz x i =>
    have hx := hb x (by simp [opdsOf])
    simp only [evOp, get_heap] at he ⊢
    generalize x.get G s = u at *
    cases u <;> simp only [refs] at hx <;> try (cases hx; done)
    all_goals
      repeat' split at he
      all_goals first
        | (cases he; done)
        | (simp only [Option.some.injEq, Prod.mk.injEq] at he; obtain ⟨rfl, rfl, rfl⟩ := he; simp_all)
  case lookup tag z ok x i =>
    have hx := hb x (by simp [opdsOf])
    simp only [evOp, get_heap] at he ⊢
    generalize x.get G s = u at *
    cases u <;> simp only [refs] at hx <;> simp only [entriesOf] at he ⊢ <;> try (cases hx; done)
    all_goals
      repeat' split at he
      all_goals first
        | (cases he; done)
        | (simp only [Option.some.injEq, Prod.mk.injEq] at he; obtain ⟨rfl, rfl, rfl⟩ := he; simp_all)
  case call m f args =>
    have he : evCall C s.H m f (args.map (Opd.get G s)) = some (v, H', ed) := he
    show H' = s.H ∧ ed = [] ∧ evCall C H m f (args.map (Opd.get G { s with H := H })) = _
    rw [get_heap']
    exact hcall m f _ hn (fun p hp => by obtain ⟨x, hx, rfl⟩ := List.mem_map.1 hp; exact hb x (by simpa [opdsOf] using hx)) he
  case callv m x args =>
    rw [evOp_callv] at he ⊢
    rw [get_heap, get_heap']
    have hx := hb x (by simp [opdsOf])
    split at he
    · rename_i f caps hf
      rw [hf] at hx
      simp only [hf]
      exact hcall m f _ hn (fun p hp => by
        rcases List.mem_append.1 hp with hp | hp
        · obtain ⟨y, hy, rfl⟩ := List.mem_map.1 hp; exact hb y (by simp [opdsOf, hy])
        · exact refsL_of_nil hx p hp) he
    · cases he
theorem take_refs {g : Bool} {sz : Nat} {cs : List PV} {v : PV} (h : takeCells g sz cs = some v) : ∀ r ∈ refs v, ∃ p ∈ cs, r ∈ refs p := by
  intro r hr
  rcases take_sound (R := fun _ _ => True) h with ⟨_, _, rfl⟩ | ⟨_, h0⟩
  · obtain ⟨p, hp, hq⟩ := mem_refsL.1 (by simpa [refs] using hr)
    exact ⟨p, List.mem_of_mem_take hp, hq⟩
  · exact ⟨v, List.mem_of_getElem? h0, hr⟩
theorem fillRow_mem : ∀ {ps : List (Nat × List PV)} {cs cs' : List PV}, fillRow cs ps = some cs' → ∀ p ∈ cs', p ∈ cs ∨ ∃ q ∈ ps, p ∈ q.2
  | [], cs, cs', h, p, hp => by simp only [fillRow, Option.some.injEq] at h; subst h; exact .inl hp
  | (off, new) :: ps, cs, cs', h, p, hp => by
    simp only [fillRow] at h
    split at h
    · rcases fillRow_mem h p hp with h | ⟨q, hq, h⟩
      · rcases List.mem_append.1 h with h | h
        · rcases List.mem_append.1 h with h | h
          · exact .inl (List.mem_of_mem_take h)
          · exact .inr ⟨_, List.mem_cons_self, h⟩
        · exact .inl (List.mem_of_mem_drop h)
      · exact .inr ⟨q, List.mem_cons_of_mem _ hq, h⟩
    · cases h
theorem cellsOf_refs {v : PV} {p : PV} (h : p ∈ cellsOf v) : ∀ r ∈ refs p, r ∈ refs v := by
  intro r hr
  cases v <;> simp only [cellsOf, List.mem_singleton] at h <;> try (subst h; exact hr)
  simp only [refs]
  exact mem_refsL.2 ⟨p, h, hr⟩
theorem binInt_refs {op : BinOp} {k : IntKind} {x y : Int} {v : PV} (h : binInt op k x y = some v) : refs v = [] := by
  unfold binInt at h
  repeat' split at h
  all_goals first
    | (cases h; done)
    | (injection h with h; subst h; rfl)
theorem binFlt_refs {op : BinOp} {k : FloatKind} {x y : Nat} {v : PV} (h : binFlt op k x y = some v) : refs v = [] := by
  unfold binFlt at h
  repeat' split at h
  all_goals first
    | (cases h; done)
    | (injection h with h; subst h; rfl)
theorem binStr_refs {op : BinOp} {x y : ByteArray} {v : PV} (h : binStr op x y = some v) : refs v = [] := by
  unfold binStr at h
  repeat' split at h
  all_goals first
    | (cases h; done)
    | (injection h with h; subst h; rfl)
theorem bin_refs {op : BinOp} {x y v : PV} (h : bin op x y = some v) : refs v = [] := by
  unfold bin at h
  split at h
  · split at h
    · exact binInt_refs h
    · cases h
  · split at h
    · exact binFlt_refs h
    · cases h
  · exact binStr_refs h
  · cases h
theorem un_refs {op : UnOp} {x v : PV} (h : un op x = some v) : refs v = [] := by
  unfold un at h
  repeat' split at h
  all_goals first
    | (cases h; done)
    | (injection h with h; subst h; rfl)
theorem noHeap_refs {s : St} {op : AOp} (hn : noHeap op = true) (hz : zeroBare op = true) {v : PV} {H' : Heap} {ed : Edges} (he : evOp G C s op = some (v, H', ed)) : ∀ r ∈ refs v, ∃ x ∈ opdsOf op, r ∈ refs (x.get G s) := by
  intro r hr
  cases op <;> simp only [noHeap, Bool.false_eq_true] at hn
  case copy x => simp only [evOp, Option.some.injEq, Prod.mk.injEq] at he; obtain ⟨rfl, _⟩ := he; exact ⟨x, by simp [opdsOf], hr⟩
  case pick c a b =>
    simp only [evOp] at he
    split at he
    · split at he
      · simp only [Option.some.injEq, Prod.mk.injEq] at he; obtain ⟨rfl, _⟩ := he; exact ⟨a, by simp [opdsOf], hr⟩
      · simp only [Option.some.injEq, Prod.mk.injEq] at he; obtain ⟨rfl, _⟩ := he; exact ⟨b, by simp [opdsOf], hr⟩
    · cases he
  case build zero parts =>
    simp only [evOp] at he
    split at he
    · split at he
      · rename_i cs hf
        simp only [Option.some.injEq, Prod.mk.injEq] at he; obtain ⟨rfl, _⟩ := he
        obtain ⟨p, hp, hq⟩ := mem_refsL.1 (by simpa [refs] using hr)
        rcases fillRow_mem hf p hp with h | ⟨q, hq2, h⟩
        · have hz' : refsL zero = [] := by simpa [zeroBare] using hz
          rw [refsL_of_nil hz' p h] at hq; cases hq
        · obtain ⟨q', hq', rfl⟩ := List.mem_map.1 hq2
          exact ⟨q'.2.2, by simp only [opdsOf, List.mem_map]; exact ⟨q', hq', rfl⟩, cellsOf_refs h r hq⟩
      · cases he
    · cases he
  case nilCheck x =>
    simp only [evOp] at he
    split at he
    · rename_i h; simp only [Option.some.injEq, Prod.mk.injEq] at he; obtain ⟨rfl, _⟩ := he; exact ⟨x, by simp [opdsOf], by rw [h]; exact hr⟩
    · rename_i h; simp only [Option.some.injEq, Prod.mk.injEq] at he; obtain ⟨rfl, _⟩ := he; exact ⟨x, by simp [opdsOf], by rw [h]; exact hr⟩
    · cases he
  case bin op x y =>
    simp only [evOp] at he
    split at he
    · rename_i h; simp only [Option.some.injEq, Prod.mk.injEq] at he; obtain ⟨rfl, _⟩ := he; rw [bin_refs h] at hr; cases hr
    · cases he
  case un op x =>
    simp only [evOp] at he
    split at he
    · rename_i h; simp only [Option.some.injEq, Prod.mk.injEq] at he; obtain ⟨rfl, _⟩ := he; rw [un_refs h] at hr; cases hr
    · cases he
  case mkfn f caps =>
    simp only [evOp] at he
    split at he
    · simp only [Option.some.injEq, Prod.mk.injEq] at he; obtain ⟨rfl, _⟩ := he
      obtain ⟨p, hp, hq⟩ := mem_refsL.1 (by simpa [refs] using hr)
      obtain ⟨x, hx, rfl⟩ := List.mem_map.1 hp
      exact ⟨x, by simpa [opdsOf] using hx, hq⟩
    · cases he
  case fieldA o x =>
    simp only [evOp] at he
    split at he
    · rename_i h; simp only [Option.some.injEq, Prod.mk.injEq] at he; obtain ⟨rfl, _⟩ := he; exact ⟨x, by simp [opdsOf], by rw [h]; exact hr⟩
    · rename_i h; simp only [Option.some.injEq, Prod.mk.injEq] at he; obtain ⟨rfl, _⟩ := he; simp [refs] at hr
    · cases he
  case field g o sz x =>
    simp only [evOp] at he
    split at he
    · rename_i cs h
      split at he
      · rename_i h2; simp only [Option.some.injEq, Prod.mk.injEq] at he; obtain ⟨rfl, _⟩ := he
        obtain ⟨p, hp, hq⟩ := take_refs h2 r hr
        exact ⟨x, by simp [opdsOf], by rw [h]; exact mem_refsL.2 ⟨p, List.mem_of_mem_drop hp, hq⟩⟩
      · cases he
    · cases he
  case prim k x =>
    simp only [evOp] at he
    split at he
    · rename_i v' h
      simp only [Option.some.injEq, Prod.mk.injEq] at he; obtain ⟨rfl, _⟩ := he
      exfalso
      generalize x.get G s = u at h
      cases k <;> cases u <;> simp only [primV] at h <;> try (cases h; done)
      · rename_i k n; cases k <;> simp only [primV] at h <;> first | (cases h; done) | (injection h with h; subst h; simp [refs] at hr)
      · injection h with h; subst h; simp [refs] at hr
    · cases he
  case minmax mx x y =>
    simp only [evOp] at he
    split at he
    · rename_i v' h
      simp only [Option.some.injEq, Prod.mk.injEq] at he; obtain ⟨rfl, _⟩ := he
      exfalso
      generalize x.get G s = u at h
      generalize y.get G s = u2 at h
      cases mx <;> cases u <;> cases u2 <;> simp only [mmV] at h <;> first | (cases h; done) | (injection h with h; subst h; simp [refs] at hr)
    · cases he
  case indexP n sz x i =>
    simp only [evOp] at he
    split at he
    · rename_i v' h
      simp only [Option.some.injEq, Prod.mk.injEq] at he; obtain ⟨rfl, _⟩ := he
      refine ⟨x, by simp [opdsOf], ?_⟩
      generalize x.get G s = u at h ⊢
      generalize i.get G s = u2 at h
      unfold idxP at h
      split at h
      · split at h
        · cases u <;> simp only at h <;> first | (cases h; done) | (injection h with h; subst h; simpa [refs] using hr)
        · cases h
      · cases h
    · cases he
  case indexV n g sz x i =>
    simp only [evOp] at he
    split at he
    · rename_i cs _ j h _
      split at he
      · split at he
        · rename_i h2; simp only [Option.some.injEq, Prod.mk.injEq] at he; obtain ⟨rfl, _⟩ := he
          obtain ⟨p, hp, hq⟩ := take_refs h2 r hr
          exact ⟨x, by simp [opdsOf], by rw [h]; exact mem_refsL.2 ⟨p, List.mem_of_mem_drop hp, hq⟩⟩
        · cases he
      · cases he
    · cases he
  case extract x i =>
    simp only [evOp] at he
    split at he
    · rename_i vs h
      split at he
      · rename_i v' h2; simp only [Option.some.injEq, Prod.mk.injEq] at he; obtain ⟨rfl, _⟩ := he
        exact ⟨x, by simp [opdsOf], by rw [h]; exact mem_refsL.2 ⟨_, List.mem_of_getElem? h2, hr⟩⟩
      · cases he
    · cases he
  all_goals
    simp only [evOp] at he
    repeat' split at he
    all_goals first
      | (cases he; done)
      | (simp only [Option.some.injEq, Prod.mk.injEq] at he; obtain ⟨rfl, _⟩ := he; simp [refs] at hr)
theorem quiet_ext {s : St} {op : AOp} (hq : quietOp op = true) {v : PV} {H' : Heap} {ed : Edges} (he : evOp G C s op = some (v, H', ed)) : (∃ X, H' = s.H ++ X) ∧ ed = [] := by
  have call : ∀ (md : Mode) (f : Nat) (args : List PV), modeQ md = true → evCall C s.H md f args = some (v, H', ed) → (∃ X, H' = s.H ++ X) ∧ ed = [] := by
    intro md f args hq he
    cases md with
    | shared => cases hq
    | lend => cases hq
    | pure =>
      unfold evCall at he
      simp only at he
      split at he
      · split at he
        · simp only [Option.some.injEq, Prod.mk.injEq] at he
          obtain ⟨_, rfl, rfl⟩ := he
          exact ⟨⟨[], by simp⟩, rfl⟩
        · cases he
      · cases he
  cases op <;> simp only [quietOp, Bool.false_eq_true] at hq
  case call m f args => exact call m f _ hq he
  case callv m x args =>
    rw [evOp_callv] at he
    split at he
    · exact call m _ _ hq he
    · cases he
  all_goals
    simp only [evOp] at he
    repeat' split at he
    all_goals first
      | (cases he; done)
      | (simp only [Option.some.injEq, Prod.mk.injEq] at he; obtain ⟨_, rfl, rfl⟩ := he; exact ⟨⟨[], (List.append_nil _).symm⟩, rfl⟩)
      | (simp only [Option.some.injEq, Prod.mk.injEq] at he; obtain ⟨_, rfl, rfl⟩ := he; exact ⟨⟨[_], rfl⟩, rfl⟩)
theorem target_spec {s : St} {op : AOp} {v : PV} {H' : Heap} {ed : Edges} (he : evOp G C s op = some (v, H', ed)) {t : Option Nat} (ht : target G s op = some t) : (t = none ∧ ∃ X, H' = s.H ++ X) ∨ ∃ id, t = some id ∧ ∀ j, j ≠ id → H'[j]? = s.H[j]? := by
  cases op <;> simp only [target] at ht <;> try (cases ht; done)
  case store sz a x =>
    split at ht
    · rename_i id row off tot ha
      injection ht with ht
      subst ht
      refine .inr ⟨id, rfl, fun j hj => ?_⟩
      simp only [evOp, ha] at he
      split at he
      · rename_i h
        simp only [Option.some.injEq, Prod.mk.injEq] at he; obtain ⟨_, rfl, _⟩ := he
        unfold storeAt at h
        simp only at h
        repeat' split at h
        all_goals first
          | (cases h; done)
          | (simp only [Option.some.injEq, Prod.mk.injEq] at h; obtain ⟨rfl, _⟩ := h; exact List.getElem?_set_ne (Ne.symm hj))
      · cases he
    · cases ht
  case append sz bytes x y =>
    split at ht
    · rename_i id off len tot ha
      injection ht with ht
      subst ht
      refine .inr ⟨id, rfl, fun j hj => ?_⟩
      simp only [evOp, ha] at he
      split at he
      · unfold appendTo at he
        simp only at he
        repeat' split at he
        all_goals first
          | (cases he; done)
          | (simp only [Option.some.injEq, Prod.mk.injEq] at he; obtain ⟨_, rfl, _⟩ := he; exact List.getElem?_set_ne (Ne.symm hj))
      · cases he
    · rename_i ha
      injection ht with ht
      subst ht
      refine .inl ⟨rfl, ?_⟩
      simp only [evOp, ha] at he
      split at he
      · unfold appendTo at he
        simp only at he
        repeat' split at he
        all_goals first
          | (cases he; done)
          | (simp only [Option.some.injEq, Prod.mk.injEq] at he; obtain ⟨_, rfl, _⟩ := he; exact ⟨_, rfl⟩)
      · cases he
    · cases ht
  case copyS sz x y =>
    split at ht
    · rename_i id off len tot ha
      injection ht with ht
      subst ht
      refine .inr ⟨id, rfl, fun j hj => ?_⟩
      simp only [evOp, ha] at he
      repeat' split at he
      all_goals first
        | (cases he; done)
        | skip
      all_goals
        rename_i h1 _ _ _ _ _ _ _
        simp only [Option.some.injEq, Prod.mk.injEq] at he
        obtain ⟨_, rfl, _⟩ := he
        cases h1
        exact List.getElem?_set_ne (Ne.symm hj)
    · cases ht
  case insert tag m k x =>
    split at ht
    · rename_i id ha
      injection ht with ht
      subst ht
      refine .inr ⟨id, rfl, fun j hj => ?_⟩
      simp only [evOp, ha] at he
      repeat' split at he
      all_goals first
        | (cases he; done)
        | (simp only [Option.some.injEq, Prod.mk.injEq] at he; obtain ⟨_, rfl, _⟩ := he; exact List.getElem?_set_ne (Ne.symm hj))
    · cases ht
theorem cellsAt_append {H X : Heap} {v : PV} {cs : List PV} (h : cellsAt H v = some cs) : cellsAt (H ++ X) v = some cs := by
  unfold cellsAt at *
  split at h
  · exact h
  · rename_i id row off tot
    cases hH : H[id]? with
    | none => simp [hH] at h
    | some b =>
      have hlt := (List.getElem?_eq_some_iff.1 hH).1
      simp only [List.getElem?_append_left hlt, hH] at h ⊢
      exact h
  · cases h
theorem cellsAt_same {H H' : Heap} {v : PV} (h : ∀ id ∈ refs v, H'[id]? = H[id]?) : cellsAt H' v = cellsAt H v := by
  unfold cellsAt
  cases v <;> try rfl
  rename_i id row off tot
  simp only [h id (by simp [refs])]
end
end
theorem testBit_bits {acc : List Nat} {j : Nat} : ∀ {l : List Edge} {s : Nat}, (l.foldl (fun s e => match Region.binds .any e with | true => s ||| (1 <<< e.on ||| acc.getD e.on 0) | false => s) s).testBit j = true →
    s.testBit j = true ∨ ∃ e ∈ l, Region.binds .any e = true ∧ (j = e.on ∨ (acc.getD e.on 0).testBit j = true)
  | [], s, h => .inl h
  | e :: l, s, h => by
    simp only [List.foldl_cons] at h
    rcases testBit_bits h with h | ⟨e', h1, h2, h3⟩
    · cases hb : Region.binds .any e with
      | true =>
        rw [hb] at h
        simp only [Nat.testBit_or, Bool.or_eq_true] at h
        rcases h with h | h | h
        · exact .inl h
        · refine .inr ⟨e, List.mem_cons_self, hb, .inl ?_⟩
          rw [Nat.one_shiftLeft, Nat.testBit_two_pow] at h
          simpa using (by simpa using h : e.on = j).symm
        · exact .inr ⟨e, List.mem_cons_self, hb, .inr h⟩
      | false => rw [hb] at h; exact .inl h
    · exact .inr ⟨e', List.mem_cons_of_mem _ h1, h2, h3⟩
theorem masks_prefix : ∀ (os : List Oper) (acc : List Nat) (i : Nat), i < acc.length → (masks os acc)[i]? = acc[i]?
  | [], acc, i, h => rfl
  | o :: os, acc, i, h => by
    simp only [masks]
    rw [masks_prefix os _ i (by simp; omega), List.getElem?_append_left h]
theorem masks_at : ∀ (os : List Oper) (acc : List Nat) (k : Nat) (o : Oper), os[k]? = some o → ∃ acc', acc'.length = acc.length + k ∧ (∀ j, j < acc'.length → (masks os acc)[j]? = acc'[j]?) ∧ (masks os acc)[acc.length + k]? = some (bits acc' o)
  | [], acc, k, o, h => by simp at h
  | o' :: os, acc, 0, o, h => by
    simp only [List.getElem?_cons_zero, Option.some.injEq] at h
    subst h
    refine ⟨acc, by simp, fun j hj => masks_prefix _ _ _ hj, ?_⟩
    simp only [masks, Nat.add_zero]
    rw [masks_prefix _ _ _ (by simp)]
    simp
  | o' :: os, acc, k + 1, o, h => by
    obtain ⟨acc', h1, h2, h3⟩ := masks_at os (acc ++ [bits acc o']) k o (by simpa using h)
    simp only [List.length_append, List.length_singleton] at h1 h3
    exact ⟨acc', by omega, h2, by rw [show acc.length + (k + 1) = acc.length + 1 + k by omega]; exact h3⟩
def waits (ops : Array Oper) (i j : Nat) : Bool := ((masks ops.toList []).getD i 0).testBit j
def Closed (ops : Array Oper) (S : Nat → Prop) : Prop := ∀ i o, S i → ops[i]? = some o → ∀ e ∈ o.after, Region.binds .any e = true → S e.on
theorem waits_of {ops : Array Oper} {S : Nat → Prop} (hS : Closed ops S) : ∀ (n i : Nat), i ≤ n → ∀ {o : Oper} {j : Nat}, ops[i]? = some o → (∀ e ∈ o.after, Region.binds .any e = true → e.on < i ∧ S e.on) → (∀ i o, ops[i]? = some o → ∀ e ∈ o.after, Region.binds .any e = true → e.on < i) → waits ops i j = true → S j := by
  intro n
  induction n with
  | zero =>
    intro i hi o j ho he hb hw
    have : i = 0 := by omega
    subst this
    obtain ⟨acc', h1, h2, h3⟩ := masks_at ops.toList [] 0 o (by simpa using ho)
    unfold waits at hw
    rw [List.getD_eq_getElem?_getD, show (masks ops.toList [])[0]? = _ by simpa using h3] at hw
    simp only [Option.getD_some] at hw
    rcases testBit_bits hw with h | ⟨e, k1, k2, _⟩
    · simp at h
    · have := (he e (by simpa using k1) k2).1; omega
  | succ n ih =>
    intro i hi o j ho he hb hw
    obtain ⟨acc', h1, h2, h3⟩ := masks_at ops.toList [] i o (by simpa using ho)
    simp only [List.length_nil, Nat.zero_add] at h1 h3
    unfold waits at hw
    rw [List.getD_eq_getElem?_getD, h3] at hw
    simp only [Option.getD_some] at hw
    rcases testBit_bits hw with h | ⟨e, k1, k2, k3⟩
    · simp at h
    · have hk := he e (by simpa using k1) k2
      rcases k3 with rfl | k3
      · exact hk.2
      · have ho' : ∃ o', ops[e.on]? = some o' := by
          have : i < ops.size := (Array.getElem?_eq_some_iff.1 ho).1
          exact ⟨_, Array.getElem?_eq_getElem (by omega)⟩
        obtain ⟨o', ho'⟩ := ho'
        refine ih e.on (by omega) ho' (fun e' h4 h5 => ⟨hb _ _ ho' e' h4 h5, hS _ _ hk.2 ho' e' h4 h5⟩) hb ?_
        unfold waits
        rw [List.getD_eq_getElem?_getD, h2 e.on (by omega), ← List.getD_eq_getElem?_getD]
        exact k3
theorem waits_closed {ops : Array Oper} {S : Nat → Prop} (hS : Closed ops S) (hb : ∀ i o, ops[i]? = some o → ∀ e ∈ o.after, Region.binds .any e = true → e.on < i) {i j : Nat} {o : Oper} (ho : ops[i]? = some o) (hi : S i) (hw : waits ops i j = true) : S j :=
  waits_of hS i i (Nat.le_refl _) ho (fun e h1 h2 => ⟨hb _ _ ho e h1 h2, hS _ _ hi ho e h1 h2⟩) hb hw
theorem okAgainst_spec {ms : List Nat} {as : List AOper} {i : Nat} {y : AOper} : ∀ {xs : List AOper} {j : Nat}, okAgainst ms as i y j xs = true → ∀ (k : Nat) (x : AOper), xs[k]? = some x → j + k < i → okPair ((ms.getD i 0).testBit (j + k)) x ((as.take i).drop (j + k + 1)) y = true
  | [], j, h, k, x, hk, _ => by simp at hk
  | x' :: xs, j, h, k, x, hk, hlt => by
    simp only [okAgainst] at h
    split at h
    · simp only [Bool.and_eq_true] at h
      cases k with
      | zero => simp only [List.getElem?_cons_zero, Option.some.injEq] at hk; subst hk; exact h.1
      | succ k =>
        have := okAgainst_spec h.2 k x (by simpa using hk) (by omega)
        rwa [show j + 1 + k = j + (k + 1) by omega] at this
    · rename_i hb
      have : ¬ j < i := fun h => by
        have h2 : Nat.blt j i = true := by rw [Nat.blt_eq]; exact h
        rw [h2] at hb; cases hb
      omega
theorem okFrom_spec {ms : List Nat} {as : List AOper} : ∀ {ys : List AOper} {i : Nat}, okFrom ms as i ys = true → ∀ (k : Nat) (y : AOper), ys[k]? = some y → okAgainst ms as (i + k) y 0 as = true
  | [], i, h, k, y, hk => by simp at hk
  | y' :: ys, i, h, k, y, hk => by
    simp only [okFrom, Bool.and_eq_true] at h
    cases k with
    | zero => simp only [List.getElem?_cons_zero, Option.some.injEq] at hk; subst hk; exact h.1
    | succ k =>
      have := okFrom_spec h.2 k y (by simpa using hk)
      rwa [show i + 1 + k = i + (k + 1) by omega] at this
theorem edgesBack_spec : ∀ {os : List Oper} {i : Nat}, edgesBack i os = true → ∀ (k : Nat) (o : Oper), os[k]? = some o → ∀ e ∈ o.after, Region.binds .any e = true → e.on < i + k
  | [], i, h, k, o, hk => by simp at hk
  | o' :: os, i, h, k, o, hk => by
    simp only [edgesBack, Bool.and_eq_true] at h
    cases k with
    | zero =>
      simp only [List.getElem?_cons_zero, Option.some.injEq] at hk; subst hk
      intro e he hb
      have := List.all_eq_true.1 h.1 e (by simpa using he)
      rw [hb] at this
      simpa [Nat.blt_eq] using this
    | succ k =>
      have := edgesBack_spec h.2 k o (by simpa using hk)
      rwa [show i + 1 + k = i + (k + 1) by omega] at this
def StepE (G : Nat → Option (List PV)) (C : Cl) (o : AOper) (s s1 : St) (v : PV) : Prop :=
  (wanted G s o = some true ∧ ∃ H ed, evOper G C s o = some (v, H, ed) ∧ s1 = St.put { s with H := H, ed := ed ++ s.ed } o.dst v) ∨ (wanted G s o = some false ∧ v = .und ∧ s1 = s.put o.dst .und)
theorem evOps_trace {G : Nat → Option (List PV)} {C : Cl} : ∀ {as : List AOper} {st st' : St}, evOps G C as st = some st' → ∃ (sts : Nat → St) (vals : Nat → PV), sts 0 = st ∧ sts as.length = st' ∧ ∀ i o, as[i]? = some o → StepE G C o (sts i) (sts (i + 1)) (vals i)
  | [], st, st', h => by
    simp only [evOps, Option.some.injEq] at h
    exact ⟨fun _ => st, fun _ => .unk, rfl, h, by simp⟩
  | o :: os, st, st', h => by
    have key : ∀ s1 v, StepE G C o st s1 v → evOps G C os s1 = some st' → ∃ (sts : Nat → St) (vals : Nat → PV), sts 0 = st ∧ sts (o :: os).length = st' ∧ ∀ i o', (o :: os)[i]? = some o' → StepE G C o' (sts i) (sts (i + 1)) (vals i) := by
      intro s1 v hs he
      obtain ⟨sts, vals, h1, h2, h3⟩ := evOps_trace he
      refine ⟨fun i => match i with | 0 => st | i + 1 => sts i, fun i => match i with | 0 => v | i + 1 => vals i, rfl, h2, fun i o' hi => ?_⟩
      cases i with
      | zero =>
        simp only [List.getElem?_cons_zero, Option.some.injEq] at hi
        subst hi
        show StepE G C o st (sts 0) v
        rw [h1]; exact hs
      | succ i => exact h3 i o' (by simpa using hi)
    simp only [evOps] at h
    split at h
    · rename_i hw
      split at h
      · rename_i v H ed ho
        exact key _ v (.inl ⟨hw, H, ed, ho, rfl⟩) h
      · cases h
    · rename_i hw
      exact key _ .und (.inr ⟨hw, rfl, rfl⟩) h
    · cases h
def slot (T : Tell) (s : St) (d : Nat) : PV := match T.K d with | true => s.per.get d | false => s.reg.get d
def KOk (T : Tell) (s : St) : Prop := (∀ d, T.K d = false → s.per.get d = .unk) ∧ ∀ d, T.K d = true → s.reg.get d = .unk
theorem slot_put {T : Tell} {s : St} {d : Nat} {v : PV} (n : Nat) : slot T (s.put (some (T.K d, d)) v) n = if n = d then v else slot T s n := by
  unfold slot
  by_cases e : n = d
  · subst e
    cases hk : T.K n <;> simp [St.put, Env.get_put]
  · cases hk : T.K d <;> cases hn : T.K n <;> simp [St.put, Env.get_put, e]
theorem KOk.put {T : Tell} {s : St} (h : KOk T s) (d : Nat) (v : PV) : KOk T (s.put (some (T.K d, d)) v) := by
  cases hk : T.K d with
  | true =>
    refine ⟨fun n hn => ?_, h.2⟩
    simp only [St.put]; rw [Env.get_put]
    have : n ≠ d := fun e => by subst e; rw [hk] at hn; cases hn
    simpa [this] using h.1 n hn
  | false =>
    refine ⟨h.1, fun n hn => ?_⟩
    simp only [St.put]; rw [Env.get_put]
    have : n ≠ d := fun e => by subst e; rw [hk] at hn; cases hn
    simpa [this] using h.2 n hn
theorem Opd.get_slot {G : Nat → Option (List PV)} {T : Tell} {s : St} (h : KOk T s) {x : Opd} {d : Nat} (hx : slotOf x = some d) : x.get G s = slot T s d ∨ x.get G s = .unk := by
  cases x <;> simp only [slotOf, Option.some.injEq] at hx <;> try (cases hx; done)
  all_goals
    subst hx
    unfold slot
    rename_i n
    cases hk : T.K n
    · first
        | exact .inl rfl
        | exact .inr (h.1 n hk)
    · first
        | exact .inl rfl
        | exact .inr (h.2 n hk)
section
structure Ctx (P : Program) (G : Nat → Option (List PV)) (T : Tell) (nt : Nat) (C : Cl) (ops : Array Oper) (as : List AOper) (sts : Nat → St) (vals : Nat → PV) : Prop where
  len : as.length = ops.size
  tr : ∀ (i : Nat) (o : Oper) (y : AOper), ops[i]? = some o → as[i]? = some y → TrOper P T nt ops o y
  step : ∀ (i : Nat) (y : AOper), as[i]? = some y → StepE G C y (sts i) (sts (i + 1)) (vals i)
  pair : ∀ (j i : Nat) (x y : AOper), j < i → as[j]? = some x → as[i]? = some y → okPair (waits ops i j) x ((as.take i).drop (j + 1)) y = true
  back : ∀ (i : Nat) (o : Oper), ops[i]? = some o → ∀ e ∈ o.after, Region.binds .any e = true → e.on < i
  bare : ∀ (i : Nat) (y : AOper), as[i]? = some y → (∀ x ∈ y.opds, bareConst x = true) ∧ zeroBare y.op = true
  kok : KOk T (sts 0)
section
variable {P : Program} {G : Nat → Option (List PV)} {T : Tell} {nt : Nat} {C : Cl} {ops : Array Oper} {as : List AOper} {sts : Nat → St} {vals : Nat → PV}
theorem free_quiet {y : AOper} (h : free y = true) : quietOp y.op = true := by
  unfold free at h
  cases hop : y.op <;> rw [hop] at h <;> simp [noHeap, canStill, quietOp] at h ⊢ <;> first | exact h.2 | exact h
theorem Ctx.dst (c : Ctx P G T nt C ops as sts vals) {i : Nat} {y : AOper} (hy : as[i]? = some y) : (y.dst = none ∧ y.writes = none) ∨ ∃ d, d < nt ∧ y.dst = some (T.K d, d) ∧ y.writes = some d := by
  have hlt : i < ops.size := by rw [← c.len]; exact (List.getElem?_eq_some_iff.1 hy).1
  rcases (c.tr i _ y (Array.getElem?_eq_getElem hlt) hy).dst with ⟨h1, h2⟩ | ⟨d, h1, h2, h3⟩
  · exact .inl ⟨h2, by simp [AOper.writes, h2]⟩
  · exact .inr ⟨d, h2, h3, by simp [AOper.writes, h3]⟩
theorem Ctx.oper (c : Ctx P G T nt C ops as sts vals) {i : Nat} {y : AOper} (hy : as[i]? = some y) : ∃ o, ops[i]? = some o := by
  have hlt : i < ops.size := by rw [← c.len]; exact (List.getElem?_eq_some_iff.1 hy).1
  exact ⟨_, Array.getElem?_eq_getElem hlt⟩
theorem Ctx.at_ (c : Ctx P G T nt C ops as sts vals) {i : Nat} (h : i < as.length) : ∃ y, as[i]? = some y := ⟨_, List.getElem?_eq_getElem h⟩
theorem Ctx.slot1 (c : Ctx P G T nt C ops as sts vals) {i : Nat} {y : AOper} (hy : as[i]? = some y) (hk : KOk T (sts i)) : (∀ d, slot T (sts (i + 1)) d = if y.writes = some d then vals i else slot T (sts i) d) ∧ KOk T (sts (i + 1)) := by
  have key : ∀ (s : St) (v : PV), (∀ d, slot T s d = slot T (sts i) d) → KOk T s → sts (i + 1) = s.put y.dst v → v = vals i → (∀ d, slot T (sts (i + 1)) d = if y.writes = some d then vals i else slot T (sts i) d) ∧ KOk T (sts (i + 1)) := by
    intro s v h1 h2 h3 h4
    subst h4
    rw [h3]
    rcases c.dst hy with ⟨e1, e2⟩ | ⟨d, _, e1, e2⟩
    · rw [e1, e2]; exact ⟨fun d => h1 d, h2⟩
    · rw [e1, e2]
      refine ⟨fun n => ?_, h2.put d _⟩
      rw [slot_put, h1]
      by_cases e : n = d
      · simp [e]
      · simp [e, Ne.symm e]
  rcases c.step i y hy with ⟨_, H, ed, _, h⟩ | ⟨_, h1, h⟩
  · exact key { (sts i) with H := H, ed := ed ++ (sts i).ed } _ (fun d => rfl) hk h rfl
  · exact key (sts i) .und (fun _ => rfl) hk h h1.symm
theorem Ctx.kokAt (c : Ctx P G T nt C ops as sts vals) : ∀ i, i ≤ as.length → KOk T (sts i)
  | 0, _ => c.kok
  | i + 1, h => by
    obtain ⟨y, hy⟩ := c.at_ (i := i) (by omega)
    exact (c.slot1 hy (c.kokAt i (by omega))).2
theorem Ctx.slot_same (c : Ctx P G T nt C ops as sts vals) {d i : Nat} : ∀ k, i ≤ k → k ≤ as.length → (∀ j y, i ≤ j → j < k → as[j]? = some y → y.writes ≠ some d) → slot T (sts k) d = slot T (sts i) d := by
  intro k hk
  induction hk with
  | refl => intro _ _; rfl
  | step hk ih =>
    rename_i k
    intro hl hn
    have hik : i ≤ k := hk
    obtain ⟨y, hy⟩ := c.at_ (i := k) (by omega)
    rw [(c.slot1 hy (c.kokAt k (by omega))).1, if_neg (hn k y hik (by omega) hy)]
    exact ih (by omega) fun j y h1 h2 => hn j y h1 (by omega)
theorem Ctx.writes_ne (c : Ctx P G T nt C ops as sts vals) {i j : Nat} {x y : AOper} (hne : i ≠ j) (hi : as[i]? = some x) (hj : as[j]? = some y) {d : Nat} (hx : x.writes = some d) : y.writes ≠ some d := by
  intro hy
  have key : ∀ (i j : Nat) (x y : AOper), i < j → as[i]? = some x → as[j]? = some y → x.writes = some d → y.writes = some d → False := by
    intro i j x y h hi hj hx hy
    have := c.pair i j x y h hi hj
    simp [okPair, differ, hx, hy] at this
  rcases Nat.lt_or_ge i j with h | h
  · exact key i j x y h hi hj hx hy
  · exact key j i y x (by omega) hj hi hy hx
theorem Ctx.slot_written (c : Ctx P G T nt C ops as sts vals) {j i d : Nat} {y : AOper} (hy : as[j]? = some y) (hd : y.writes = some d) (h : j < i) (hi : i ≤ as.length) : slot T (sts i) d = vals j := by
  rw [c.slot_same (i := j + 1) i (by omega) hi fun k x h1 h2 hx => c.writes_ne (by omega) hy hx hd]
  rw [(c.slot1 hy (c.kokAt j (by omega))).1, if_pos hd]
theorem Ctx.heap1 (c : Ctx P G T nt C ops as sts vals) {i : Nat} {y : AOper} (hy : as[i]? = some y) (hq : quietOp y.op = true) : (∃ X, (sts (i + 1)).H = (sts i).H ++ X) ∧ (sts (i + 1)).ed = (sts i).ed := by
  rcases c.step i y hy with ⟨_, H, ed, ho, h⟩ | ⟨_, _, h⟩
  · obtain ⟨⟨X, h1⟩, h2⟩ := quiet_ext hq (evOper_spec.1 ho).1
    rw [h, St.put_H, St.put_ed]
    simp only
    exact ⟨⟨X, h1⟩, by rw [h2]; rfl⟩
  · rw [h, St.put_H, St.put_ed]
    exact ⟨⟨[], by simp⟩, rfl⟩
theorem Ctx.heaps (c : Ctx P G T nt C ops as sts vals) {i : Nat} : ∀ k, i ≤ k → k ≤ as.length → (∀ j y, i ≤ j → j < k → as[j]? = some y → quietOp y.op = true) → (∃ X, (sts k).H = (sts i).H ++ X) ∧ (sts k).ed = (sts i).ed := by
  intro k hk
  induction hk with
  | refl => intro _ _; exact ⟨⟨[], by simp⟩, rfl⟩
  | step hk ih =>
    rename_i k
    have hik : i ≤ k := hk
    intro hl hq
    obtain ⟨y, hy⟩ := c.at_ (i := k) (by omega)
    obtain ⟨⟨X, h1⟩, h2⟩ := ih (by omega) fun j y h1 h2 => hq j y h1 (by omega)
    obtain ⟨⟨Y, h3⟩, h4⟩ := c.heap1 hy (hq k y hik (by omega) hy)
    exact ⟨⟨X ++ Y, by rw [h3, h1, List.append_assoc]⟩, h4.trans h2⟩
structure DInv (P : Program) (G : Nat → Option (List PV)) (T : Tell) (nt : Nat) (as : List AOper) (sts : Nat → St) (vals : Nat → PV) (w0 : World) (F0 : Nat → Prop) (m0 : Map) (H0 : Heap) (d0 : List Deferred) (S : Nat → Prop) (a : Act) (w : World) (B : Nat) (F : Nat → Prop) (m : Map) : Prop where
  leB : B ≤ as.length
  mutd : ∀ k y, k < B → as[k]? = some y → quietOp y.op = false → S k
  out : ∀ k y, B ≤ k → as[k]? = some y → S k → free y = true
  rel : Rel G w F m (sts B).H
  grow : Grow w0 F0 m0 H0 w F m (sts B).H
  fwd : Fwd m H0 (sts B).H (sts B).ed
  defers : a.defers = d0
  size : a.tmps.size = nt
  mono : ∀ i, i < B → (sts i).H.length ≤ (sts (i + 1)).H.length
  unex : ∀ j, j < B → ¬ S j → ∀ id, (sts j).H.length ≤ id → id < (sts (j + 1)).H.length → m id = .unk
  bnd : ∀ i, i ≤ B → ∀ id b r, id < (sts i).H.length → m id ≠ .unk → (sts i).H[id]? = some b → r ∈ brefs b → r < (sts i).H.length
  wr : ∀ j y d, S j → as[j]? = some y → y.writes = some d → RelV w F m (lens (sts B).H) (vals j) (a.tmps.getD d undef) ∧ ∀ r ∈ refs (vals j), r < (sts (min (j + 1) B)).H.length
  nw : ∀ d, (∀ j y, S j → as[j]? = some y → y.writes ≠ some d) → RelV w F m (lens (sts B).H) (slot T (sts 0) d) (a.tmps.getD d undef)
  base : ∀ d, ∀ r ∈ refs (slot T (sts 0) d), r < (sts 0).H.length
end
end
section
theorem Env.get_filter (e : Env) (f : Nat → Bool) (d : Nat) : Env.get (e.filter fun q => f q.1) d = if f d then e.get d else .unk := by
  induction e with
  | nil => simp [Env.get]
  | cons q e ih =>
    obtain ⟨k, x⟩ := q
    rw [List.filter_cons]
    by_cases hk : k = d
    · subst hk
      cases hf : f k
      · rw [hf] at ih; simpa [hf] using ih
      · simp [Env.get]
    · cases hf : f k
      · simpa [hf, Env.get, nbeq hk] using ih
      · simpa [hf, Env.get, nbeq hk] using ih
theorem filter_get (e : Env) (l : List Nat) (n : Nat) : Env.get (e.filter fun q => hasNat q.1 l) n = if hasNat n l then e.get n else .unk := Env.get_filter e (fun k => hasNat k l) n
theorem hasNat_iff {n : Nat} {l : List Nat} : hasNat n l = true ↔ n ∈ l := by
  unfold hasNat
  rw [List.any_eq_true]
  exact ⟨fun ⟨x, h1, h2⟩ => by rw [Nat.eq_of_beq_eq_true h2]; exact h1, fun h => ⟨n, h, by simp⟩⟩
def St.only (s : St) (l : List Nat) (H : Heap) : St := { per := s.per.filter fun q => hasNat q.1 l, reg := s.reg.filter fun q => hasNat q.1 l, H := H, ed := [] }
theorem only_get {G : Nat → Option (List PV)} {s : St} {l : List Nat} {H : Heap} {x : Opd} (h : ∀ d, slotOf x = some d → d ∈ l) : x.get G (s.only l H) = x.get G s := by
  cases x with
  | per n => show Env.get (s.per.filter fun q => hasNat q.1 l) n = _; rw [filter_get, if_pos (hasNat_iff.2 (h n rfl))]; rfl
  | reg n => show Env.get (s.reg.filter fun q => hasNat q.1 l) n = _; rw [filter_get, if_pos (hasNat_iff.2 (h n rfl))]; rfl
  | const v => rfl
  | glob g => rfl
theorem only_rel {T : Tell} {nt : Nat} {R : PV → Value → Prop} {s : St} {l : List Nat} {H : Heap} {a : Act} (hU : ∀ x, R .unk x) (hsz : a.tmps.size = nt) (hk : KOk T s) (h : ∀ d ∈ l, R (slot T s d) (a.tmps.getD d undef)) : RelE T nt R (s.only l H) a := by
  refine ⟨hsz, fun n => ?_, fun n => ?_, fun n hn => ?_, fun n hn => ?_⟩
  · show R (Env.get (s.per.filter fun q => hasNat q.1 l) n) _
    rw [filter_get]
    split
    · rename_i hl
      cases hn : T.K n with
      | true => have := h n (hasNat_iff.1 hl); unfold slot at this; rw [hn] at this; exact this
      | false => rw [hk.1 n hn]; exact hU _
    · exact hU _
  · show R (Env.get (s.reg.filter fun q => hasNat q.1 l) n) _
    rw [filter_get]
    split
    · rename_i hl
      cases hn : T.K n with
      | false => have := h n (hasNat_iff.1 hl); unfold slot at this; rw [hn] at this; exact this
      | true => rw [hk.2 n hn]; exact hU _
    · exact hU _
  · show Env.get (s.per.filter fun q => hasNat q.1 l) n = _
    rw [filter_get]; split
    · exact hk.1 n hn
    · rfl
  · show Env.get (s.reg.filter fun q => hasNat q.1 l) n = _
    rw [filter_get]; split
    · exact hk.2 n hn
    · rfl
theorem lens_append {H X : Heap} {id : Nat} (h : id < H.length) : lens (H ++ X) id = lens H id := by simp [lens, List.getElem?_append_left h]
section
variable {G : Nat → Option (List PV)} {w : World} {F : Nat → Prop} {m : Map} {H : Heap}
theorem RelV.ext (R : Rel G w F m H) (X : Heap) {p : PV} {v : Value} (h : RelV w F m (lens H) p v) : RelV w F m (lens (H ++ X)) p v :=
  h.at_ fun r hr => ⟨rfl, lens_append (R.bnd h r hr)⟩
theorem Rel.ext (R : Rel G w F m H) (X : Heap) : Rel G w F m (H ++ X) := by
  refine ⟨fun id s rows h => ?_, fun id es h => ?_, fun id h => R.fresh id (by simp at h; omega), R.inj, R.lt, R.ltF, R.apart, R.glob⟩
  · by_cases hm : m id = .unk
    · exact .inl hm
    · rw [List.getElem?_append_left (R.lt_of_ne hm)] at h
      rcases R.cells id s rows h with k | k | ⟨blk, o, cap, k1, k2⟩
      · exact .inl k
      · exact .inr (.inl k)
      · exact .inr (.inr ⟨blk, o, cap, k1, k2.mono rfl fun p v hv => hv.ext R X⟩)
  · by_cases hm : m id = .unk
    · exact .inl hm
    · rw [List.getElem?_append_left (R.lt_of_ne hm)] at h
      rcases R.maps id es h with k | ⟨blk, k1, k2⟩
      · exact .inl k
      · exact .inr ⟨blk, k1, k2.mono rfl fun p v hv => hv.ext R X⟩
theorem Grow.ext {w0 : World} {F0 : Nat → Prop} {m0 : Map} {H0 : Heap} (R : Rel G w F m H) (g : Grow w0 F0 m0 H0 w F m H) (X : Heap) : Grow w0 F0 m0 H0 w F m (H ++ X) := by
  refine ⟨g.heap, g.sub, g.new, g.old, fun id hid => ?_, g.img, g.os, g.tape, g.output, g.froz, by have := g.len; simp; omega, g.fresh⟩
  obtain ⟨k1, k2, k3⟩ := g.locs id hid
  rw [lens_append (R.lt_of_ne k1)]
  exact ⟨k1, k2, k3⟩
theorem Fwd.ext {H0 : Heap} {ed : Edges} (R : Rel G w F m H) (f : Fwd m H0 H ed) (X : Heap) : Fwd m H0 (H ++ X) ed := by
  intro id b r hm hb
  rw [List.getElem?_append_left (R.lt_of_ne hm)] at hb
  exact f id b r hm hb
end
section
variable {P : Program} {G : Nat → Option (List PV)} {T : Tell} {nt : Nat} {C : Cl} {ops : Array Oper} {as : List AOper} {sts : Nat → St} {vals : Nat → PV} {w0 : World} {F0 : Nat → Prop} {m0 : Map} {H0 : Heap} {d0 : List Deferred} {S : Nat → Prop} {a : Act} {w : World} {B : Nat} {F : Nat → Prop} {m : Map}
theorem DInv.le (D : DInv P G T nt as sts vals w0 F0 m0 H0 d0 S a w B F m) {i k : Nat} (h : i ≤ k) : k ≤ B → (sts i).H.length ≤ (sts k).H.length := by
  induction h with
  | refl => intro _; exact Nat.le_refl _
  | step h ih => intro hk; exact Nat.le_trans (ih (by omega)) (D.mono _ (by omega))
theorem DInv.next (c : Ctx P G T nt C ops as sts vals) (D : DInv P G T nt as sts vals w0 F0 m0 H0 d0 S a w B F m) {y : AOper} (hy : as[B]? = some y) (hq : quietOp y.op = true) : DInv P G T nt as sts vals w0 F0 m0 H0 d0 S a w (B + 1) F m := by
  obtain ⟨⟨X, hX⟩, hed⟩ := c.heap1 hy hq
  have hlen : (sts B).H.length ≤ (sts (B + 1)).H.length := by rw [hX]; simp
  have hext : ∀ p v, RelV w F m (lens (sts B).H) p v → RelV w F m (lens (sts (B + 1)).H) p v := fun p v h => by rw [hX]; exact h.ext D.rel X
  refine ⟨(List.getElem?_eq_some_iff.1 hy).1, fun k z hk hz hm => ?_, fun k z hk hz hs => D.out k z (by omega) hz hs, by rw [hX]; exact D.rel.ext X, by rw [hX]; exact D.grow.ext D.rel X, by rw [hX, hed]; exact D.fwd.ext D.rel X, D.defers, D.size, fun i hi => ?_, fun j hj hs id h1 h2 => ?_, fun i hi id b r h1 h2 h3 h4 => ?_, fun j z d hs hz hd => ?_, fun d hd => hext _ _ (D.nw d hd), D.base⟩
  · rcases Nat.lt_or_ge k B with h | h
    · exact D.mutd k z h hz hm
    · have : k = B := by omega
      subst this; rw [hy] at hz; injection hz with hz; subst hz; rw [hq] at hm; cases hm
  · rcases Nat.lt_or_ge i B with h | h
    · exact D.mono i h
    · have : i = B := by omega
      subst this; exact hlen
  · rcases Nat.lt_or_ge j B with h | h
    · exact D.unex j h hs id h1 h2
    · have : j = B := by omega
      subst this; exact D.rel.fresh id h1
  · rcases Nat.lt_or_ge i (B + 1) with h | h
    · exact D.bnd i (by omega) id b r h1 h2 h3 h4
    · have : i = B + 1 := by omega
      subst this
      have hlt := D.rel.lt_of_ne h2
      rw [hX, List.getElem?_append_left hlt] at h3
      have := D.rel.block_lt h3 h2 r h4
      omega
  · obtain ⟨k1, k2⟩ := D.wr j z d hs hz hd
    refine ⟨hext _ _ k1, fun r hr => ?_⟩
    have := k2 r hr
    rcases Nat.lt_or_ge j B with h | h
    · rw [Nat.min_eq_left (by omega)] at this ⊢; exact this
    · rw [Nat.min_eq_right (by omega)] at this
      rw [Nat.min_eq_right (by omega)]
      omega
theorem DInv.advance (c : Ctx P G T nt C ops as sts vals) : ∀ (n : Nat) {B : Nat}, as.length ≤ B + n → DInv P G T nt as sts vals w0 F0 m0 H0 d0 S a w B F m → ∃ B', DInv P G T nt as sts vals w0 F0 m0 H0 d0 S a w B' F m ∧ ∀ y, as[B']? = some y → quietOp y.op = false
  | 0, B, hn, D => ⟨B, D, fun y hy => by have := (List.getElem?_eq_some_iff.1 hy).1; omega⟩
  | n + 1, B, hn, D => by
    cases hy : as[B]? with
    | none => exact ⟨B, D, fun y h => by rw [hy] at h; cases h⟩
    | some y =>
      cases hq : quietOp y.op with
      | false => exact ⟨B, D, fun z h => by rw [hy] at h; injection h with h; subst h; exact hq⟩
      | true => exact DInv.advance c n (by omega) (D.next c hy hq)
theorem DInv.done (c : Ctx P G T nt C ops as sts vals) (D : DInv P G T nt as sts vals w0 F0 m0 H0 d0 S a w B F m) {i : Nat} {o : Oper} {y : AOper} (ho : ops[i]? = some o) (hy : as[i]? = some y) (hni : ¬ S i) {E : Nat} (hE : E = B ∧ i ≠ B ∨ i = B ∧ E = B + 1)
    {w' : World} {F' : Nat → Prop} {m' : Map} {cv : Value} (R' : Rel G w' F' m' (sts E).H) (g : Grow w0 F0 m0 H0 w' F' m' (sts E).H) (hmono : ∀ p v, RelV w F m (lens (sts B).H) p v → RelV w' F' m' (lens (sts E).H) p v) (hBE : (sts B).H.length ≤ (sts E).H.length) (hf : Fwd m' H0 (sts E).H (sts E).ed) (hv : RelV w' F' m' (lens (sts E).H) (vals i) cv)
    (hvb : ∀ r ∈ refs (vals i), r < (sts (min (i + 1) E)).H.length) (hout : B < i → free y = true)
    (hun : ∀ id, m id = .unk → m' id ≠ .unk → i < E ∧ (sts i).H.length ≤ id ∧ id < (sts (i + 1)).H.length)
    (hnew : ∀ id, m id = .unk → m' id ≠ .unk → ∀ k, k ≤ B → id < (sts k).H.length → ∀ b r, (sts k).H[id]? = some b → r ∈ brefs b → r < (sts k).H.length) :
    DInv P G T nt as sts vals w0 F0 m0 H0 d0 (fun k => S k ∨ k = i) (a.put o.dst cv) w' E F' m' := by
  have hEle : B ≤ E := by omega
  have hmn : ∀ i, i < E → (sts i).H.length ≤ (sts (i + 1)).H.length := fun k hk => by
    rcases Nat.lt_or_ge k B with h | h
    · exact D.mono k h
    · have h1 : k = B := by omega
      have h2 : E = B + 1 := by omega
      subst h1; rw [← h2]; exact hBE
  have hle : ∀ {i k : Nat}, i ≤ k → k ≤ E → (sts i).H.length ≤ (sts k).H.length := by
    intro i k h
    induction h with
    | refl => intro _; exact Nat.le_refl _
    | step h ih => intro hk; exact Nat.le_trans (ih (by omega)) (hmn _ (by omega))
  have hlen : i < as.length := (List.getElem?_eq_some_iff.1 hy).1
  have hput : ∀ d, (a.put o.dst cv).tmps.getD d undef = if y.writes = some d then cv else a.tmps.getD d undef := by
    intro d
    rcases (c.tr i o y ho hy).dst with ⟨h1, h2⟩ | ⟨d', h1, h2, h3⟩
    · rw [h1]; simp [AOper.writes, h2, Act.put]
    · rw [h1, show y.writes = some d' by simp [AOper.writes, h3]]
      have hlt : d' < a.tmps.size := by rw [D.size]; exact h2
      rw [show (a.put (some d') cv).tmps = a.tmps.setIfInBounds d' cv from rfl, getD_set _ _ _ _ hlt]
      by_cases e : d = d'
      · simp [e]
      · simp [e, Ne.symm e]
  have hwb : ∀ {j r : Nat}, r < (sts (min (j + 1) B)).H.length → r < (sts (min (j + 1) E)).H.length := fun {j r} h => Nat.lt_of_lt_of_le h (hle (by omega) (by omega))
  refine ⟨by rcases hE with ⟨h, _⟩ | ⟨h1, h2⟩ <;> have := D.leB <;> omega, fun k z hk hz hm => ?_, fun k z hk hz hs => ?_, R', g, hf, by rw [Act.put_defers']; exact D.defers, by cases o.dst <;> simp [Act.put, D.size], hmn, fun j hj hs id h1 h2 => ?_, fun k hk id b r h1 h2 h3 h4 => ?_, fun j z d hs hz hd => ?_, fun d hd => ?_, D.base⟩
  · rcases Nat.lt_or_ge k B with h | h
    · exact .inl (D.mutd k z h hz hm)
    · right; omega
  · rcases hs with hs | rfl
    · exact D.out k z (by omega) hz hs
    · rw [hy] at hz; injection hz with hz; subst hz
      exact hout (by omega)
  · have hji : j ≠ i := fun e => hs (.inr e)
    have hjB : j < B := by omega
    have hmu := D.unex j hjB (fun h => hs (.inl h)) id h1 h2
    by_cases hm' : m' id = .unk
    · exact hm'
    · obtain ⟨k1, k2, k3⟩ := hun id hmu hm'
      rcases Nat.lt_or_ge j i with h | h
      · have := hle (i := j + 1) (k := i) (by omega) (by omega); omega
      · have := hle (i := i + 1) (k := j) (by omega) (by omega); omega
  · rcases Nat.lt_or_ge B k with h | h
    · have : k = E := by omega
      subst this
      exact R'.block_lt h3 h2 r h4
    · by_cases hmu : m id = .unk
      · exact hnew id hmu h2 k h h1 b r h3 h4
      · exact D.bnd k h id b r h1 hmu h3 h4
  · rw [hput]
    rcases hs with hs | rfl
    · obtain ⟨k1, k2⟩ := D.wr j z d hs hz hd
      have hne : y.writes ≠ some d := c.writes_ne (fun e => by subst e; exact hni hs) hz hy hd
      rw [if_neg hne]
      exact ⟨hmono _ _ k1, fun r hr => hwb (k2 r hr)⟩
    · rw [hy] at hz; injection hz with hz; subst hz
      rw [if_pos hd]
      exact ⟨hv, hvb⟩
  · rw [hput, if_neg (hd i y (.inr rfl) hy)]
    exact hmono _ _ (D.nw d fun j z hs hz => hd j z (.inl hs) hz)
end
end
theorem Rel.glue {G : Nat → Option (List PV)} {w w' : World} {F F' : Nat → Prop} {m m1 : Map} {K Hn H1 : Heap} {n : Nat} {w0 : World} {F0 : Nat → Prop} {m0 : Map} {H0 : Heap} (gs : Grow w0 F0 m0 H0 w F m K) (hH0 : H0.length ≤ n) (R : Rel G w F m K) (hn : Hn.length = n) (h0 : ∃ X, K = Hn ++ X) (h1 : ∃ X, K = H1 ++ X) (h2 : ∃ X, H1 = Hn ++ X)
    (hu : ∀ id, n ≤ id → id < H1.length → m id = .unk) (R1 : Rel G w' F' m1 H1) (g : Grow w F (m.restr n) Hn w' F' m1 H1) (q : Quiet w (m.restr n) Hn w' m1 H1) :
    ∃ m2, Rel G w' F' m2 K ∧ Grow w0 F0 m0 H0 w' F' m2 K ∧ (∀ p v, RelV w' F' m1 (lens H1) p v → RelV w' F' m2 (lens K) p v) ∧ (∀ p v, RelV w F m (lens K) p v → RelV w' F' m2 (lens K) p v) ∧ (∀ id, id < H1.length → m2 id = m1 id) ∧ (∀ id, m id = .unk → m2 id ≠ .unk → n ≤ id ∧ id < H1.length ∧ m1 id ≠ .unk) := by
  obtain ⟨X0, hX0⟩ := h0
  obtain ⟨X1, hX1⟩ := h1
  obtain ⟨X2, hX2⟩ := h2
  have hn1 : n ≤ H1.length := by rw [hX2]; simp; omega
  have hlK : H1.length ≤ K.length := by rw [hX1]; simp
  let m2 : Map := fun id => if id < n ∨ H1.length ≤ id then m id else m1 id
  have e1 : ∀ id, id < n ∨ H1.length ≤ id → m2 id = m id := fun id h => if_pos h
  have e2 : ∀ id, n ≤ id → id < H1.length → m2 id = m1 id := fun id h h' => if_neg (by omega)
  have e3 : ∀ id, id < H1.length → m2 id = m1 id := fun id h => by
    by_cases hid : id < n
    · rw [e1 id (.inl hid)]
      have := q.map id (by omega)
      rw [Map.restr_lt m hid] at this
      exact this.symm
    · exact e2 id (by omega) h
  have hb : ∀ b, b < w.heap.size → w'.heap[b]? = w.heap[b]? := q.heap
  have hnew : ∀ id blk o c s, n ≤ id → m1 id = .at_ blk o c s → w.heap.size ≤ blk := by
    intro id blk o c s hid h
    rcases g.img blk ⟨id, o, c, s, h⟩ with ⟨id', o', c', s', h'⟩ | h'
    · obtain ⟨k1, _, k3⟩ := Map.restr_ne (m := m) (n := n) (id := id') (by rw [h']; simp)
      have hq := q.map id' (by omega)
      rw [h'] at hq
      have := R1.inj _ _ _ _ _ _ _ _ _ h hq
      omega
    · exact h'
  have key : ∀ id, m2 id ≠ .unk → m2 id = m id ∨ (n ≤ id ∧ id < H1.length ∧ m2 id = m1 id) := by
    intro id h
    by_cases hid : id < n ∨ H1.length ≤ id
    · exact .inl (e1 id hid)
    · exact .inr ⟨by omega, by omega, e2 id (by omega) (by omega)⟩
  have hmono1 : ∀ p v, RelV w' F' m1 (lens H1) p v → RelV w' F' m2 (lens K) p v := fun p v h => h.at_ fun r hr => by
    have := R1.bnd h r hr
    exact ⟨e3 r this, by rw [hX1]; exact lens_append this⟩
  have hm2u : ∀ id, m id ≠ .unk → m2 id = m id := fun id h => by
    by_cases hid : id < n ∨ H1.length ≤ id
    · exact e1 id hid
    · exact absurd (hu id (by omega) (by omega)) h
  have hmono : ∀ p v, RelV w F m (lens K) p v → RelV w' F' m2 (lens K) p v := fun p v h =>
    h.mono (fun b hF => hb b (R.ltF b hF)) g.sub fun id hid => ⟨by rw [hm2u id hid]; exact hid, Nat.le_refl _, fun _ => hm2u id hid⟩
  refine ⟨m2, ⟨fun id s rows h => ?_, fun id es h => ?_, fun id h => ?_, fun id id' b o c s o' c' s' h1 h2 => ?_, fun b ⟨id, o, c, s, h⟩ => ?_, R1.ltF, fun b ⟨id, o, c, s, h⟩ hF => ?_, R1.glob⟩,
    ⟨Nat.le_trans gs.heap g.heap, fun b h => g.sub b (gs.sub b h), fun b h => ?_, fun b h h2 => (hb b (Nat.lt_of_lt_of_le h gs.heap)).trans (gs.old b h h2), fun id hid => ?_, fun b ⟨id, o, c, s, h⟩ => ?_, g.os.trans gs.os, g.tape.trans gs.tape, g.output.trans gs.output, fun x => (g.froz x).trans (gs.froz x), gs.len, fun id h1 h2 => ?_⟩, hmono1, hmono, e3, fun id h1 h2 => ?_⟩
  · by_cases hid : id < n ∨ H1.length ≤ id
    · rw [e1 id hid]
      rcases R.cells id s rows h with k | k | ⟨blk, o, cap, k1, k2⟩
      · exact .inl k
      · exact .inr (.inl k)
      · exact .inr (.inr ⟨blk, o, cap, k1, k2.mono (hb blk (R.lt blk ⟨id, o, cap, s, k1⟩)) hmono⟩)
    · rw [e2 id (by omega) (by omega)]
      rw [hX1, List.getElem?_append_left (by omega)] at h
      rcases R1.cells id s rows h with k | k | ⟨blk, o, cap, k1, k2⟩
      · exact .inl k
      · exact .inr (.inl k)
      · exact .inr (.inr ⟨blk, o, cap, k1, k2.mono rfl hmono1⟩)
  · by_cases hid : id < n ∨ H1.length ≤ id
    · rw [e1 id hid]
      rcases R.maps id es h with k | ⟨blk, k1, k2⟩
      · exact .inl k
      · exact .inr ⟨blk, k1, k2.mono (hb blk (R.lt blk ⟨id, 0, 0, 0, k1⟩)) hmono⟩
    · rw [e2 id (by omega) (by omega)]
      rw [hX1, List.getElem?_append_left (by omega)] at h
      rcases R1.maps id es h with k | ⟨blk, k1, k2⟩
      · exact .inl k
      · exact .inr ⟨blk, k1, k2.mono rfl hmono1⟩
  · rw [e1 id (.inr (by omega))]; exact R.fresh id h
  · have k1 := key id (by rw [h1]; simp)
    have k2 := key id' (by rw [h2]; simp)
    rcases k1 with k1 | ⟨a1, a2, k1⟩ <;> rcases k2 with k2 | ⟨b1, b2, k2⟩
    · exact R.inj _ _ _ _ _ _ _ _ _ (k1 ▸ h1) (k2 ▸ h2)
    · have := hnew id' _ _ _ _ b1 (k2 ▸ h2)
      have := R.lt b ⟨id, o, c, s, k1 ▸ h1⟩
      omega
    · have := hnew id _ _ _ _ a1 (k1 ▸ h1)
      have := R.lt b ⟨id', o', c', s', k2 ▸ h2⟩
      omega
    · exact R1.inj _ _ _ _ _ _ _ _ _ (k1 ▸ h1) (k2 ▸ h2)
  · rcases key id (by rw [h]; simp) with k | ⟨_, _, k⟩
    · exact Nat.lt_of_lt_of_le (R.lt b ⟨id, o, c, s, k ▸ h⟩) g.heap
    · exact R1.lt b ⟨id, o, c, s, k ▸ h⟩
  · rcases key id (by rw [h]; simp) with k | ⟨_, _, k⟩
    · have hlt := R.lt b ⟨id, o, c, s, k ▸ h⟩
      rcases g.new b hF with hF | hF
      · exact R.apart b ⟨id, o, c, s, k ▸ h⟩ hF
      · omega
    · exact R1.apart b ⟨id, o, c, s, k ▸ h⟩ hF
  · rcases g.new b h with h | h
    · exact gs.new b h
    · exact .inr (Nat.le_trans gs.heap h)
  · obtain ⟨k1, k2, k3⟩ := gs.locs id hid
    rw [hm2u id k1]
    exact ⟨k1, k2, k3⟩
  · rcases key id (by rw [h]; simp) with k | ⟨k0, _, k⟩
    · exact gs.img b ⟨id, o, c, s, k ▸ h⟩
    · exact .inr (Nat.le_trans gs.heap (hnew id _ _ _ _ k0 (k ▸ h)))
  · rcases key id h2 with k | ⟨k1, _, k⟩
    · rw [k] at h2; exact gs.fresh id h1 h2
    · omega
  · rcases key id h2 with k | ⟨k1, k2, k⟩
    · rw [k] at h2; exact absurd h1 h2
    · exact ⟨k1, k2, k ▸ h2⟩
section
section
variable {P : Program} {G : Nat → Option (List PV)} {T : Tell} {nt : Nat} {C : Cl} {ops : Array Oper} {as : List AOper} {sts : Nat → St} {vals : Nat → PV} {w0 : World} {F0 : Nat → Prop} {m0 : Map} {H0 : Heap} {d0 : List Deferred} {S : Nat → Prop} {a : Act} {w : World} {B : Nat} {F : Nat → Prop} {m : Map}
theorem ready_waits (c : Ctx P G T nt C ops as sts vals) (hS : Closed ops S) {i j : Nat} {o : Oper} (ho : ops[i]? = some o) (hr : ∀ e ∈ o.after, Region.binds .any e = true → S e.on) (hw : waits ops i j = true) : S j :=
  waits_of hS i i (Nat.le_refl _) ho (fun e h1 h2 => ⟨c.back i o ho e h1 h2, hr e h1 h2⟩) c.back hw
theorem writesNot_false {d : Nat} {o : Option Nat} {l : List Nat} (ho : o = some d) (hd : d ∈ l) : writesNot o l = false := by
  subst ho
  simp [writesNot, hasNat_iff.2 hd]
theorem DInv.slotAt (c : Ctx P G T nt C ops as sts vals) (D : DInv P G T nt as sts vals w0 F0 m0 H0 d0 S a w B F m) (hS : Closed ops S) {i : Nat} {o : Oper} {y : AOper} (ho : ops[i]? = some o) (hy : as[i]? = some y) (hni : ¬ S i)
    (hr : ∀ e ∈ o.after, Region.binds .any e = true → S e.on) {d : Nat} (hd : d ∈ y.reads) : RelV w F m (lens (sts B).H) (slot T (sts i) d) (a.tmps.getD d undef) ∧ (i ≤ B → ∀ r ∈ refs (slot T (sts i) d), r < (sts i).H.length) := by
  have hlen : i < as.length := (List.getElem?_eq_some_iff.1 hy).1
  by_cases hex : ∃ (j : Nat) (x : AOper), as[j]? = some x ∧ x.writes = some d
  · obtain ⟨j, x, hx, hw⟩ := hex
    rcases Nat.lt_trichotomy j i with h | h | h
    ·
      have hp := c.pair j i x y h hx hy
      have hap : apartA x y = false := by simp [apartA, writesNot_false hw hd]
      have hwt : waits ops i j = true := by
        simp only [okPair, hap, Bool.false_and, Bool.or_false, Bool.and_eq_true] at hp
        exact hp.2
      have hSj := ready_waits c hS ho hr hwt
      obtain ⟨k1, k2⟩ := D.wr j x d hSj hx hw
      rw [c.slot_written hx hw h (by omega)]
      refine ⟨k1, fun hiB r hq => ?_⟩
      have := k2 r hq
      rw [Nat.min_eq_left (by omega)] at this
      exact Nat.lt_of_lt_of_le this (D.le (by omega) hiB)
    · subst h
      have hs : slot T (sts j) d = slot T (sts 0) d := c.slot_same j (Nat.zero_le _) (by omega) fun k z _ h2 hz => c.writes_ne (by omega) hx hz hw
      rw [hs]
      refine ⟨D.nw d fun k z hk hz => ?_, fun hiB r hq => Nat.lt_of_lt_of_le (D.base d r hq) (D.le (Nat.zero_le _) hiB)⟩
      by_cases e : j = k
      · subst e; exact absurd hk hni
      · exact c.writes_ne e hx hz hw
    ·
      have hp := c.pair i j y x h hy hx
      have hap : apartA y x = false := by simp [apartA, writesNot_false hw hd]
      have hwt : waits ops j i = true := by
        simp only [okPair, hap, Bool.false_and, Bool.or_false, Bool.and_eq_true] at hp
        exact hp.2
      have hSj : ¬ S j := fun hSj => by
        obtain ⟨oj, hoj⟩ := c.oper hx
        exact hni (waits_closed hS c.back hoj hSj hwt)
      have hs : slot T (sts i) d = slot T (sts 0) d := c.slot_same i (Nat.zero_le _) (by omega) fun k z _ h2 hz => c.writes_ne (by omega) hx hz hw
      rw [hs]
      refine ⟨D.nw d fun k z hk hz => ?_, fun hiB r hq => Nat.lt_of_lt_of_le (D.base d r hq) (D.le (Nat.zero_le _) hiB)⟩
      by_cases e : j = k
      · subst e; exact absurd hk hSj
      · exact c.writes_ne e hx hz hw
  · have hno : ∀ (k : Nat) (z : AOper), as[k]? = some z → z.writes ≠ some d := fun k z hz hw => hex ⟨k, z, hz, hw⟩
    have hs : slot T (sts i) d = slot T (sts 0) d := c.slot_same i (Nat.zero_le _) (by omega) fun k z _ _ hz => hno k z hz
    rw [hs]
    exact ⟨D.nw d fun k z _ hz => hno k z hz, fun hiB r hq => Nat.lt_of_lt_of_le (D.base d r hq) (D.le (Nat.zero_le _) hiB)⟩
theorem mem_opds {y : AOper} {x : Opd} (h : x ∈ opdsOf y.op) : x ∈ y.opds := by
  unfold AOper.opds
  split
  · exact h
  · exact List.mem_cons_of_mem _ h
theorem mem_reads {y : AOper} {x : Opd} {d : Nat} (h : x ∈ y.opds) (hd : slotOf x = some d) : d ∈ y.reads := List.mem_filterMap.2 ⟨x, h, hd⟩
theorem DInv.opdRefs (c : Ctx P G T nt C ops as sts vals) (D : DInv P G T nt as sts vals w0 F0 m0 H0 d0 S a w B F m) (hS : Closed ops S) {i : Nat} {o : Oper} {y : AOper} (ho : ops[i]? = some o) (hy : as[i]? = some y) (hni : ¬ S i)
    (hr : ∀ e ∈ o.after, Region.binds .any e = true → S e.on) (hiB : i ≤ B) {x : Opd} (hx : x ∈ y.opds) : ∀ r ∈ refs (x.get G (sts i)), r < (sts i).H.length := by
  have hlen : i < as.length := (List.getElem?_eq_some_iff.1 hy).1
  intro r hq
  have hsl : ∀ d, slotOf x = some d → r < (sts i).H.length := fun d hd => by
    rcases Opd.get_slot (G := G) (c.kokAt i (by omega)) hd with h | h
    · rw [h] at hq
      exact (D.slotAt c hS ho hy hni hr (mem_reads hx hd)).2 hiB r hq
    · rw [h] at hq; simp [refs] at hq
  cases x with
  | per n => exact hsl n rfl
  | reg n => exact hsl n rfl
  | const v =>
    have := (c.bare i y hy).1 _ hx
    simp only [bareConst, List.isEmpty_iff] at this
    simp only [Opd.get, this] at hq; cases hq
  | glob g =>
    simp only [Opd.get] at hq
    split at hq
    · simp [refs] at hq
    · simp [refs] at hq
theorem DInv.before (c : Ctx P G T nt C ops as sts vals) (D : DInv P G T nt as sts vals w0 F0 m0 H0 d0 S a w B F m) (hB : ∀ y, as[B]? = some y → quietOp y.op = false) (hS : Closed ops S) {i : Nat} {o : Oper} {y : AOper} (ho : ops[i]? = some o) (hy : as[i]? = some y)
    (hr : ∀ e ∈ o.after, Region.binds .any e = true → S e.on) (hf : free y = false) : i ≤ B := by
  rcases Nat.lt_or_ge B i with h | h
  · have hlen : i < as.length := (List.getElem?_eq_some_iff.1 hy).1
    obtain ⟨z, hz⟩ := c.at_ (i := B) (by omega)
    have hp := c.pair B i z y h hz hy
    have hzq := hB z hz
    simp only [okPair, hzq, hf, Bool.or_false, Bool.and_false, Bool.false_and, Bool.and_eq_true, Bool.or_eq_true, Bool.false_eq_true, or_false] at hp
    have := D.out B z (Nat.le_refl _) hz (ready_waits c hS ho hr hp.2)
    rw [free_quiet this] at hzq; cases hzq
  · exact h
theorem sameOpd_eq {x y : Opd} (h : sameOpd x y = true) : x = y := by
  cases x <;> cases y <;> simp only [sameOpd, Bool.false_eq_true] at h <;> rw [Nat.eq_of_beq_eq_true h]
theorem DInv.loadSame (c : Ctx P G T nt C ops as sts vals) (D : DInv P G T nt as sts vals w0 F0 m0 H0 d0 S a w B F m) (hS : Closed ops S) {i : Nat} {y : AOper} (hy : as[i]? = some y) (hni : ¬ S i) (hf : free y = false) {x : Opd} (hl : loadAt y.op = some x) {cs : List PV} (hc : cellsAt (sts i).H (x.get G (sts i)) = some cs) :
    ∀ k, i ≤ k → k ≤ B → cellsAt (sts k).H (x.get G (sts i)) = some cs := by
  intro k hk
  induction hk with
  | refl => intro _; exact hc
  | step hk ih =>
    rename_i k
    have hik : i ≤ k := hk
    intro hkB
    have ih := ih (by omega)
    have hkl : k < as.length := by have := D.leB; omega
    obtain ⟨z, hz⟩ := c.at_ hkl
    cases hq : quietOp z.op with
    | true =>
      obtain ⟨⟨X, hX⟩, _⟩ := c.heap1 hz hq
      rw [hX]; exact cellsAt_append ih
    | false =>
      have hSk := D.mutd k z (by omega) hz hq
      have hne : i ≠ k := fun e => by subst e; exact hni hSk
      have hnw : waits ops k i = false := by
        cases hw : waits ops k i with
        | false => rfl
        | true =>
          obtain ⟨oz, hoz⟩ := c.oper hz
          exact absurd (waits_closed hS c.back hoz hSk hw) hni
      have hp := c.pair i k y z (by omega) hy hz
      simp only [okPair, hnw, hq, hf, hl, Bool.false_or, Bool.and_eq_true] at hp
      obtain ⟨_, _, hcl, hnwr⟩ := hp
      have hget : x.get G (sts k) = x.get G (sts i) := by
        have hmid : ∀ (j : Nat) (u : AOper), i ≤ j → j < k → as[j]? = some u → ∀ d, slotOf x = some d → u.writes ≠ some d := by
          intro j u h1 h2 hu d hd hw
          unfold notWritten at hnwr
          rw [hd] at hnwr
          simp only [List.all_cons, Bool.and_eq_true] at hnwr
          have hdf : differ u.writes (some d) = true := by
            rcases Nat.lt_or_ge i j with h | h
            · have hm : u ∈ (as.take k).drop (i + 1) := by
                refine List.mem_of_getElem? (i := j - (i + 1)) ?_
                rw [List.getElem?_drop, show i + 1 + (j - (i + 1)) = j by omega, List.getElem?_take, if_pos h2]
                exact hu
              exact List.all_eq_true.1 hnwr.2 u hm
            · have : i = j := by omega
              subst this; rw [hy] at hu; injection hu with hu; subst hu; exact hnwr.1
          rw [hw] at hdf
          simp [differ] at hdf
        cases hsl : slotOf x with
        | none => cases x <;> simp only [slotOf] at hsl <;> first | rfl | cases hsl
        | some d =>
          have hss := c.slot_same (d := d) (i := i) k hik (by omega) fun j u h1 h2 hu => hmid j u h1 h2 hu d hsl
          have hk1 := c.kokAt k (by omega)
          have hk2 := c.kokAt i (by omega)
          have hper : T.K d = true → (sts k).per.get d = (sts i).per.get d := fun hT => by simpa [slot, hT] using hss
          have hreg : T.K d = false → (sts k).reg.get d = (sts i).reg.get d := fun hT => by simpa [slot, hT] using hss
          cases x <;> simp only [slotOf, Option.some.injEq] at hsl <;> try (cases hsl; done)
          · subst hsl
            simp only [Opd.get]
            cases hT : T.K _ with
            | true => exact hper hT
            | false => rw [hk1.1 _ hT, hk2.1 _ hT]
          · subst hsl
            simp only [Opd.get]
            cases hT : T.K _ with
            | false => exact hreg hT
            | true => rw [hk1.2 _ hT, hk2.2 _ hT]
      rcases c.step k z hz with ⟨_, H, ed, hop, h⟩ | ⟨_, _, h⟩
      · obtain ⟨hev, hok, _⟩ := evOper_spec.1 hop
        rw [h, St.put_H]
        simp only
        simp only [okNow, Bool.and_eq_true] at hok
        obtain ⟨x', hx', hsame⟩ := List.any_eq_true.1 hcl
        have := sameOpd_eq hsame
        subst this
        have hc2 := List.all_eq_true.1 hok.2 _ hx'
        rw [hget] at hc2
        cases ht : target G (sts k) z.op with
        | none => rw [ht] at hc2; simp [clearOf] at hc2
        | some t =>
          rcases target_spec hev ht with ⟨rfl, X, hX⟩ | ⟨id, rfl, hid⟩
          · rw [hX]; exact cellsAt_append ih
          · rw [← ih]
            refine cellsAt_same fun j hj => hid j fun e => ?_
            subst e
            rw [ht] at hc2
            generalize x.get G (sts i) = u at *
            cases u <;> simp only [clearOf, Bool.false_eq_true] at hc2 <;> simp [refs] at hj
            subst hj
            simp at hc2
      · rw [h, St.put_H]; exact ih
end
end
section
theorem trOp_load {P : Program} {T : Tell} {dst : Option Nat} {op : Op} {g : Bool} {sz : Nat} {x : Opd} (h : trOp P T dst op = some (.load g sz x)) : ∃ x0, trOpd T x0 = some x := by
  cases op
  case load t a =>
    simp only [trOp] at h
    split at h
    · rename_i g' sz' y h1 h2 h3
      injection h with h
      injection h with _ _ h
      subst h
      exact ⟨a, h3⟩
    · cases h
  all_goals
    exfalso
    simp only [trOp, trCall] at h
    repeat' split at h
    all_goals first
      | (cases h; done)
      | (injection h with h; cases h; done)
      | (unfold mmOp at h; split at h <;> first | (cases h; done) | (injection h with h; cases h; done))
      | (unfold bitsOp at h; split at h <;> first | (cases h; done) | (injection h with h; cases h; done))
section
variable {P : Program} {G : Nat → Option (List PV)} {T : Tell} {nt : Nat} {C : Cl} {ops : Array Oper} {as : List AOper} {sts : Nat → St} {vals : Nat → PV} {w0 : World} {F0 : Nat → Prop} {m0 : Map} {H0 : Heap} {d0 : List Deferred} {S : Nat → Prop} {a : Act} {w : World} {B : Nat} {F : Nat → Prop} {m : Map}
theorem step_any (hC : ClOk P G C) (c : Ctx P G T nt C ops as sts vals) (h00 : H0.length ≤ (sts 0).H.length) (D : DInv P G T nt as sts vals w0 F0 m0 H0 d0 S a w B F m) (hB : ∀ y, as[B]? = some y → quietOp y.op = false) (hS : Closed ops S) {i : Nat} {o : Oper} {y : AOper}
    (ho : ops[i]? = some o) (hy : as[i]? = some y) (hni : ¬ S i) (hr : ∀ e ∈ o.after, Region.binds .any e = true → S e.on) {K : Act → World → Prop} {Q : Exit → Act → World → Prop}
    (hK : ∀ a1 w1 B1 F1 m1, DInv P G T nt as sts vals w0 F0 m0 H0 d0 (fun k => S k ∨ k = i) a1 w1 B1 F1 m1 → K a1 w1) : wpOp P ops Q i K a w := by
  have t := c.tr i o y ho hy
  have hlen : i < as.length := (List.getElem?_eq_some_iff.1 hy).1
  have hk := c.kokAt i (by omega)
  have hsl := fun d hd => D.slotAt c hS ho hy hni hr (d := d) hd
  have E := only_rel (H := (sts B).H) RelV.unk' D.size hk fun d hd => (hsl d hd).1
  have hbef : free y = false → i ≤ B := D.before c hB hS ho hy hr
  have hout : B < i → free y = true := fun h => by
    cases hf : free y with
    | true => rfl
    | false => have := hbef hf; omega
  have hcong : ∀ (H : Heap) {r : PV × Heap × Edges}, evOp G C { sts i with H := H } y.op = some r → evOp G C ((sts i).only y.reads H) y.op = some r := fun H r h => by
    rw [← h]
    refine evOp_congr (fun x hx => ?_) rfl
    rw [get_heap]
    exact only_get fun d hd => mem_reads (mem_opds hx) hd
  have hguard : ∀ {b : Bool}, wanted G (sts i) y = some b → Region.wanted o (yielded ops a.tmps) = b := fun hb => by
    refine guard_sound (R := RelV w F m (lens (sts B).H)) t D.size (fun _ _ => bool_inv) (fun _ => und_inv) (fun d => ?_) hb
    by_cases hd : d ∈ y.reads
    · left
      have := (hsl d hd).1
      unfold slot at this
      cases hT : T.K d <;> rw [hT] at this <;> exact this
    · right
      intro g w' hg e
      apply hd
      refine mem_reads (x := g) (by unfold AOper.opds; rw [hg]; exact List.mem_cons_self) ?_
      rw [e]
      cases T.K d <;> rfl
  unfold wpOp
  simp only [ho]
  rcases c.step i y hy with ⟨hw, H', ed, hop, hst⟩ | ⟨hw, hv0, hst⟩
  · rw [hguard hw]
    simp only [if_true]
    refine .inl ?_
    obtain ⟨hev, hok, hres⟩ := evOper_spec.1 hop
    have hH1 : (sts (i + 1)).H = H' := by rw [hst, St.put_H]
    have hed1 : (sts (i + 1)).ed = ed ++ (sts i).ed := by rw [hst, St.put_ed]
    have mequal : ∀ {w' : World} {F' : Nat → Prop} {m' : Map} {HB : Heap}, Rel G w' F' m' HB → Grow w F m HB w' F' m' HB → m' = m := by
      intro w' F' m' HB R' g
      funext id
      by_cases h : m id = .unk
      · by_cases h2 : m' id = .unk
        · rw [h, h2]
        · exact absurd (R'.fresh id (g.fresh id h h2)) h2
      · exact (g.locs id h).2.2 rfl
    have whole : i ≠ B → evOp G C { sts i with H := (sts B).H } y.op = some (vals i, (sts B).H, []) → (i < B → ∀ r ∈ refs (vals i), r < (sts (i + 1)).H.length) → o.wp P a w K Q := by
      intro hiB he hrf
      refine op_soundC (st := (sts i).only y.reads (sts B).H) hC D.rel E t.op (hcong _ he) K Q fun cv w' F' m' R' g hv _ _ => ?_
      have hm := mequal R' g
      subst hm
      refine hK _ _ B F' m' (D.done c ho hy hni (.inl ⟨rfl, hiB⟩) R' (D.grow.trans g) (fun p v h => h.grow D.rel g) (Nat.le_refl _) D.fwd hv (fun r hr => ?_) hout (fun id h1 h2 => absurd h1 h2) fun id h1 h2 => absurd h1 h2)
      rcases Nat.lt_or_ge i B with h | h
      · rw [Nat.min_eq_left (by omega)]; exact hrf h r hr
      · rw [Nat.min_eq_right (by omega)]; exact R'.bnd hv r hr
    cases hf : free y with
    | true =>
      have hq := free_quiet hf
      have hiB : i ≠ B := fun e => by subst e; rw [hB y hy] at hq; cases hq
      have hle : i < B → (sts i).H.length ≤ (sts (i + 1)).H.length := D.mono i
      unfold free at hf
      cases hn : noHeap y.op with
      | true =>
        refine whole hiB (noHeap_any hn hev _).2.2 fun h r hr' => ?_
        obtain ⟨x, hx, hq⟩ := noHeap_refs hn (c.bare i y hy).2 hev r hr'
        exact Nat.lt_of_lt_of_le (D.opdRefs c hS ho hy hni hr (by omega) (mem_opds hx) r hq) (hle h)
      | false =>
        rw [hn] at hf
        simp only [Bool.false_or, Bool.and_eq_true] at hf
        have hb : ∀ x ∈ opdsOf y.op, refs (x.get G (sts i)) = [] := by
          simp only [okNow, hf.1, Bool.not_true, Bool.false_or, Bool.and_eq_true] at hok
          intro x hx
          simpa using List.all_eq_true.1 hok.1 x hx
        have hr0 := hres hf.1
        refine whole hiB (still_any hf.2 hb hev hr0 _).2.2 fun h r hr' => ?_
        rw [hr0] at hr'; cases hr'
    | false =>
      have hiB := hbef hf
      cases hq : quietOp y.op with
      | false =>
        have : i = B := by
          rcases Nat.lt_or_ge i B with h | h
          · exact absurd (D.mutd i y h hy hq) hni
          · omega
        subst this
        refine op_soundC (st := (sts i).only y.reads (sts i).H) hC D.rel E t.op (hcong _ hev) K Q fun cv w' F' m' R' g hv _ hfw => ?_
        have hg0 : Grow w F m (sts i).H w' F' m' H' := g
        rw [← hH1] at R' hv hfw hg0
        refine hK _ _ (i + 1) F' m' (D.done c ho hy hni (.inr ⟨rfl, rfl⟩) R' (D.grow.trans hg0) (fun p v h => h.grow D.rel hg0) hg0.len (by rw [hed1]; exact Fwd.trans D.fwd hg0 hfw) hv (fun r hr => ?_) hout (fun id h1 h2 => ⟨by omega, hg0.fresh id h1 h2, R'.lt_of_ne h2⟩) fun id h1 h2 k hk hid => ?_)
        · rw [Nat.min_self]; exact R'.bnd hv r hr
        · have := hg0.fresh id h1 h2
          have := D.le (i := k) (k := i) hk (Nat.le_refl _)
          omega
      | true =>
        have hiB' : i ≠ B := fun e => by subst e; rw [hB y hy] at hq; cases hq
        have hlt : i < B := by omega
        cases hl : loadAt y.op with
        | some x =>
          have hop : ∃ g sz, y.op = .load g sz x := by
            cases hyo : y.op <;> rw [hyo] at hl <;> simp only [loadAt] at hl <;> try (cases hl; done)
            injection hl with hl
            subst hl
            exact ⟨_, _, rfl⟩
          obtain ⟨g, sz, hop⟩ := hop
          rw [hop] at hev
          simp only [evOp] at hev
          split at hev
          · rename_i cs hcs
            split at hev
            · rename_i v hv
              simp only [Option.some.injEq, Prod.mk.injEq] at hev
              obtain ⟨hev1, _, _⟩ := hev
              have hsame := D.loadSame c hS hy hni hf hl hcs B (by omega) (Nat.le_refl _)
              refine whole hiB' ?_ fun _ r hr' => ?_
              · rw [hop]
                simp only [evOp, get_heap, hsame, hv, hev1]
              · rw [← hev1] at hr'
                obtain ⟨p, hp, hpr⟩ := take_refs hv r hr'
                have htr := t.op
                rw [hop] at htr
                obtain ⟨x0, hx0⟩ := trOp_load htr
                have hxv := opd_sound (st := (sts i).only y.reads (sts B).H) D.rel E hx0
                have hxo : x ∈ y.opds := mem_opds (by rw [hop]; simp [opdsOf])
                rw [only_get fun d hd => mem_reads hxo hd] at hxv
                have hrefs := D.opdRefs c hS ho hy hni hr (by omega) hxo
                refine Nat.lt_of_lt_of_le ?_ (D.mono i hlt)
                generalize a.eval x0 = cv0 at hxv
                generalize x.get G (sts i) = u at *
                cases u <;> simp only [cellsAt] at hcs <;> try (cases hcs; done)
                · simp only [Option.some.injEq] at hcs
                  subst hcs
                  cases hxv with
                  | froz _ _ hxv =>
                    cases hxv with
                    | fp _ blk o' off f _ _ _ hh =>
                      obtain ⟨j, hj⟩ := List.getElem?_of_mem (List.mem_of_mem_drop hp)
                      rw [(hh j p hj).refs] at hpr; cases hpr
                · rename_i id row off tot
                  split at hcs
                  · rename_i s rows hH
                    split at hcs
                    · rename_i cs' _ hrow
                      simp only [Option.some.injEq] at hcs
                      subst hcs
                      exact D.bnd i (by omega) id _ r (hrefs id (by simp [refs])) (hxv.refs_ne id (by simp [refs])) hH (mem_brefs_cells.2 ⟨cs', List.mem_of_getElem? hrow, p, List.mem_of_mem_drop hp, hpr⟩)
                    · cases hcs
                  · cases hcs
            · cases hev
          · cases hev
        | none =>
          have hquiet : ∀ k z, i ≤ k → k < B → as[k]? = some z → quietOp z.op = true := by
            intro k z h1 h2 hz
            cases hzq : quietOp z.op with
            | true => rfl
            | false =>
              have hSk := D.mutd k z h2 hz hzq
              have hne : i ≠ k := fun e => by subst e; exact hni hSk
              have hp := c.pair i k y z (by omega) hy hz
              simp only [okPair, hzq, hf, hl, Bool.or_false, Bool.and_false, Bool.false_or, Bool.and_eq_true] at hp
              obtain ⟨oz, hoz⟩ := c.oper hz
              exact absurd (waits_closed hS c.back hoz hSk hp.2) hni
          have hBl := D.leB
          obtain ⟨X0, hX0⟩ := (c.heaps B (i := i) (by omega) hBl hquiet).1
          obtain ⟨X1, hX1⟩ := (c.heaps B (i := i + 1) (by omega) hBl fun k z h1 h2 hz => hquiet k z (by omega) h2 hz).1
          obtain ⟨⟨X2, hX2⟩, _⟩ := c.heap1 hy hq
          have htake : (sts B).H.take (sts i).H.length = (sts i).H := by rw [hX0]; simp
          have Rr : Rel G w F (m.restr (sts i).H.length) (sts i).H := by
            have := D.rel.restr (sts i).H.length fun id b r h1 h2 h3 h4 => by
              rw [hX0, List.getElem?_append_left h1] at h3
              exact D.bnd i (by omega) id b r h1 h2 h3 h4
            rwa [htake] at this
          have Er := only_rel (T := T) (nt := nt) (R := RelV w F (m.restr (sts i).H.length) (lens (sts i).H)) (s := sts i) (l := y.reads) (H := (sts i).H) (a := a) RelV.unk' D.size hk fun d hd => by
            have := (hsl d hd).1.restr (n := (sts i).H.length) ((hsl d hd).2 (by omega))
            rwa [htake] at this
          refine op_soundC (st := (sts i).only y.reads (sts i).H) hC Rr Er t.op (hcong _ hev) K Q fun cv w' F' m1 R1 g1 hv hqq hfw => ?_
          have hg0 : Grow w F (m.restr (sts i).H.length) (sts i).H w' F' m1 H' := g1
          have hq0 : Quiet w (m.restr (sts i).H.length) (sts i).H w' m1 H' := hqq hq
          have hed0 : ed = [] := (quiet_ext hq hev).2
          have hfw0 : Fwd m1 (sts i).H H' ed := hfw
          rw [← hH1] at R1 hv hg0 hq0 hfw0
          obtain ⟨m2, R2, g2, k1, k2, k3, k4⟩ := Rel.glue (n := (sts i).H.length) D.grow (Nat.le_trans h00 (D.le (Nat.zero_le _) (by omega))) D.rel rfl ⟨X0, hX0⟩ ⟨X1, hX1⟩ ⟨X2, hX2⟩ (D.unex i hlt hni) R1 hg0 hq0
          refine hK _ _ B F' m2 (D.done c ho hy hni (.inl ⟨rfl, hiB'⟩) R2 g2 k2 (Nat.le_refl _) (fun id b r hm hb hrr hlt' => ?_) (k1 _ _ hv) (fun r hr => ?_) hout (fun id h1 h2 => ⟨hlt, (k4 id h1 h2).1, (k4 id h1 h2).2.1⟩) fun id h1 h2 k hkB hid b r hb hrr => ?_)
          · by_cases hmu : m id = .unk
            · obtain ⟨e1, e2, e3⟩ := k4 id hmu hm
              rw [hX1, List.getElem?_append_left e2] at hb
              rcases hfw0 id b r e3 hb hrr hlt' with ⟨b0, h1, _⟩ | h
              · rw [List.getElem?_eq_none e1] at h1; cases h1
              · rw [hed0] at h; cases h
            · exact D.fwd id b r hmu hb hrr hlt'
          · rw [Nat.min_eq_left (by omega)]; exact R1.bnd hv r hr
          · obtain ⟨e1, e2, e3⟩ := k4 id h1 h2
            have hik : i + 1 ≤ k := by
              rcases Nat.lt_or_ge i k with h | h
              · exact h
              · have := D.le (i := k) (k := i) h (by omega); omega
            obtain ⟨Y, hY⟩ := (c.heaps k (i := i + 1) hik (by omega) fun j z q1 q2 hz => hquiet j z (by omega) (by omega) hz).1
            rw [hY, List.getElem?_append_left e2] at hb
            have := R1.block_lt hb e3 r hrr
            rw [hY]; simp; omega
  · rw [hguard hw]
    simp only [Bool.false_eq_true, if_false]
    have hH1 : (sts (i + 1)).H = (sts i).H := by rw [hst, St.put_H]
    have hed1 : (sts (i + 1)).ed = (sts i).ed := by rw [hst, St.put_ed]
    by_cases hiB : i = B
    · subst hiB
      refine hK _ _ (i + 1) F m (D.done c ho hy hni (.inr ⟨rfl, rfl⟩) (by rw [hH1]; exact D.rel) (by rw [hH1]; exact D.grow) (fun p v h => by rw [hH1]; exact h) (by rw [hH1]; exact Nat.le_refl _) (by rw [hH1, hed1]; exact D.fwd) (by rw [hv0]; exact .froz _ _ .und) (fun r hr => by rw [hv0] at hr; simp [refs] at hr) hout (fun id h1 h2 => absurd h1 h2) fun id h1 h2 => absurd h1 h2)
    · refine hK _ _ B F m (D.done c ho hy hni (.inl ⟨rfl, hiB⟩) D.rel D.grow (fun p v h => h) (Nat.le_refl _) D.fwd (by rw [hv0]; exact .froz _ _ .und) (fun r hr => by rw [hv0] at hr; simp [refs] at hr) hout (fun id h1 h2 => absurd h1 h2) fun id h1 h2 => absurd h1 h2)
end
end
section
def Listed (listed : Array Bool) (i : Nat) : Prop := listed.getD i false = true
theorem listed_set {listed : Array Bool} {i : Nat} (hi : i < listed.size) (k : Nat) : Listed (listed.setIfInBounds i true) k ↔ Listed listed k ∨ k = i := by
  unfold Listed
  by_cases h : k = i
  · subst h; simp [hi]
  · simp [Array.getElem?_setIfInBounds_ne (Ne.symm h), h]
theorem count_set {listed : Array Bool} {i : Nat} (hi : i < listed.size) (h : ¬ Listed listed i) : (listed.setIfInBounds i true).toList.count false + 1 = listed.toList.count false := by
  have hf : listed.toList[i]'(by simpa using hi) = false := by
    unfold Listed at h
    simpa [hi] using h
  rw [Array.toList_setIfInBounds, List.count_set (by simpa using hi)]
  have : 0 < listed.toList.count false := List.count_pos_iff.2 (by rw [← hf]; exact List.getElem_mem _)
  simp only [hf]
  simp
  have h3 : 0 < Array.count false listed := by simpa using this
  omega
section
variable {P : Program} {G : Nat → Option (List PV)} {T : Tell} {nt : Nat} {C : Cl} {ops : Array Oper} {as : List AOper} {sts : Nat → St} {vals : Nat → PV} {w0 : World} {F0 : Nat → Prop} {m0 : Map} {H0 : Heap} {d0 : List Deferred}
theorem DInv.congr {S S' : Nat → Prop} {a : Act} {w : World} {B : Nat} {F : Nat → Prop} {m : Map} (D : DInv P G T nt as sts vals w0 F0 m0 H0 d0 S a w B F m) (h : ∀ k, S k ↔ S' k) : DInv P G T nt as sts vals w0 F0 m0 H0 d0 S' a w B F m := by
  have : S = S' := funext fun k => propext (h k)
  rw [← this]; exact D
theorem any_sound (hC : ClOk P G C) (c : Ctx P G T nt C ops as sts vals) (h00 : H0.length ≤ (sts 0).H.length) {Q : Exit → Act → World → Prop}
    (hQ : ∀ a1 w1 F1 m1, Inv G T nt w0 F0 m0 H0 d0 (sts as.length) a1 w1 F1 m1 → Q .normal a1 w1) : ∀ (fuel : Nat) (listed : Array Bool) (a : Act) (w : World) (B : Nat) (F : Nat → Prop) (m : Map), listed.size = ops.size → listed.toList.count false = fuel → Closed ops (Listed listed) →
      DInv P G T nt as sts vals w0 F0 m0 H0 d0 (Listed listed) a w B F m → wpAny P .any ops Q fuel listed a w := by
  intro fuel
  induction fuel with
  | zero =>
    intro listed a w B F m hsz hcnt hcl D
    have hall : ∀ i, i < ops.size → Listed listed i := by
      intro i hi
      have := List.count_eq_zero.1 hcnt
      have hm : listed[i]'(by omega) ∈ listed.toList := by simp
      unfold Listed
      simp only [Array.getD_eq_getD_getElem?, Array.getElem?_eq_getElem (show i < listed.size by omega), Option.getD_some]
      cases hx : listed[i]'(by omega) with
      | true => rfl
      | false => rw [hx] at hm; exact absurd hm this
    refine ⟨?_, ?_⟩
    · cases hr : Region.ready .any ops listed with
      | nil => rfl
      | cons i rs =>
        have hi : i ∈ Region.ready .any ops listed := by rw [hr]; exact List.mem_cons_self
        obtain ⟨h1, o, ho, _⟩ := mem_ready.1 hi
        have hlt : i < ops.size := (Array.getElem?_eq_some_iff.1 ho).1
        have := hall i hlt
        unfold Listed at this
        have hl : i < listed.size := by omega
        simp only [Array.getD_eq_getD_getElem?, Array.getElem?_eq_getElem hl, Option.getD_some] at h1 this
        rw [h1] at this; cases this
    · obtain ⟨B', D', hB'⟩ := D.advance c as.length (by omega)
      have hBn : B' = as.length := by
        rcases Nat.lt_or_ge B' as.length with h | h
        · obtain ⟨y, hy⟩ := c.at_ h
          have hf := D'.out B' y (Nat.le_refl _) hy (hall B' (by rw [← c.len]; exact h))
          have := free_quiet hf
          rw [hB' y hy] at this; cases this
        · have := D'.leB; omega
      subst hBn
      refine hQ a w F m ⟨D'.rel, ?_, D'.grow, D'.fwd, D'.defers⟩
      have hk := c.kokAt as.length (Nat.le_refl _)
      have hs : ∀ d, RelV w F m (lens (sts as.length).H) (slot T (sts as.length) d) (a.tmps.getD d undef) := by
        intro d
        by_cases hex : ∃ (j : Nat) (x : AOper), as[j]? = some x ∧ x.writes = some d
        · obtain ⟨j, x, hx, hw⟩ := hex
          have hj : j < as.length := (List.getElem?_eq_some_iff.1 hx).1
          rw [c.slot_written hx hw hj (Nat.le_refl _)]
          exact (D'.wr j x d (hall j (by rw [← c.len]; exact hj)) hx hw).1
        · have hno : ∀ (k : Nat) (z : AOper), as[k]? = some z → z.writes ≠ some d := fun k z hz hw => hex ⟨k, z, hz, hw⟩
          rw [c.slot_same (i := 0) as.length (Nat.zero_le _) (Nat.le_refl _) fun k z _ _ hz => hno k z hz]
          exact D'.nw d fun k z _ hz => hno k z hz
      refine ⟨D'.size, fun n => ?_, fun n => ?_, hk.1, hk.2⟩
      · cases hT : T.K n with
        | true => have := hs n; unfold slot at this; rw [hT] at this; exact this
        | false => rw [hk.1 n hT]; exact RelV.unk' _
      · cases hT : T.K n with
        | false => have := hs n; unfold slot at this; rw [hT] at this; exact this
        | true => rw [hk.2 n hT]; exact RelV.unk' _
  | succ fuel ih =>
    intro listed a w B F m hsz hcnt hcl D
    refine ⟨fun hr => ?_, fun i hi => ?_⟩
    ·
      exfalso
      have hex : ∃ i, i < ops.size ∧ ¬ Listed listed i := by
        have : 0 < listed.toList.count false := by omega
        have hm := List.count_pos_iff.1 this
        obtain ⟨i, hi, he⟩ := List.getElem_of_mem hm
        have hi' : i < listed.size := by simpa using hi
        refine ⟨i, by omega, ?_⟩
        unfold Listed
        have he' : listed[i] = false := by simpa using he
        simp [Array.getD_eq_getD_getElem?, Array.getElem?_eq_getElem hi', he']
      have key : ∀ n i, i < n → i < ops.size → ¬ Listed listed i → False := by
        intro n
        induction n with
        | zero => intro i h; omega
        | succ n ihn =>
          intro i hin hi hni
          have ho : ops[i]? = some ops[i] := Array.getElem?_eq_getElem hi
          have : i ∈ Region.ready .any ops listed := mem_ready.2 ⟨by
            have hl : i < listed.size := by omega
            unfold Listed at hni
            simpa [Array.getD_eq_getD_getElem?, Array.getElem?_eq_getElem hl] using hni, _, ho, fun e he hb => by
              have hlt := c.back i _ ho e he hb
              exact Classical.byContradiction fun hne => ihn e.on (by omega) (by omega) hne⟩
          rw [hr] at this; cases this
      obtain ⟨i, h1, h2⟩ := hex
      exact key (i + 1) i (by omega) h1 h2
    · obtain ⟨h1, o, ho, h3⟩ := mem_ready.1 hi
      have hlt : i < ops.size := (Array.getElem?_eq_some_iff.1 ho).1
      have hl : i < listed.size := by omega
      have hni : ¬ Listed listed i := by
        unfold Listed
        simp only [Array.getD_eq_getD_getElem?, Array.getElem?_eq_getElem hl, Option.getD_some] at h1 ⊢
        rw [h1]; simp
      obtain ⟨y, hy⟩ := c.at_ (i := i) (by rw [c.len]; exact hlt)
      obtain ⟨B', D', hB'⟩ := D.advance c as.length (by omega)
      refine step_any hC c h00 D' hB' hcl ho hy hni h3 fun a1 w1 B1 F1 m1 D1 => ?_
      have hset := listed_set (listed := listed) hl
      refine ih _ a1 w1 B1 F1 m1 (by simpa using hsz) (by have := count_set hl hni; omega) (fun k ok hk hok e he hb => ?_) (D1.congr fun k => (hset k).symm)
      rw [hset] at hk ⊢
      rcases hk with hk | rfl
      · exact .inl (hcl k ok hk hok e he hb)
      · rw [ho] at hok; injection hok with hok; subst hok
        exact .inl (h3 e he hb)
theorem draw_sound (hC : ClOk P G C) {Q : Exit → Act → World → Prop} {st st' : St} {a : Act} {w : World} {F : Nat → Prop} {m : Map} (hlen : as.length = ops.size) (ht : ∀ (i : Nat) (o : Oper) (ao : AOper), ops[i]? = some o → as[i]? = some ao → TrOper P T nt ops o ao) (hok : regionOk ops as = true)
    (he : evOps G C as st = some st') (I : Inv G T nt w0 F0 m0 H0 d0 st a w F m) (hQ : ∀ a1 w1 F1 m1, Inv G T nt w0 F0 m0 H0 d0 st' a1 w1 F1 m1 → Q .normal a1 w1) :
    wpAny P .any ops Q ops.size (Array.replicate ops.size false) a w := by
  obtain ⟨sts, vals, e1, e2, e3⟩ := evOps_trace he
  simp only [regionOk, Bool.and_eq_true] at hok
  obtain ⟨⟨h1, h2⟩, h3⟩ := hok
  have c : Ctx P G T nt C ops as sts vals := ⟨hlen, ht, e3, fun j i x y hji hx hy => by
    have := okAgainst_spec (okFrom_spec h2 i y hy) j x hx (by omega)
    simpa [waits] using this, fun i o ho e he hb => by
      have := edgesBack_spec h1 i o (by simpa using ho) e he hb
      simpa using this, fun i y hy => by
      have := List.all_eq_true.1 h3 y (List.mem_of_getElem? hy)
      simp only [Bool.and_eq_true] at this
      exact ⟨fun x hx => List.all_eq_true.1 this.1 x hx, this.2⟩, by rw [e1]; exact ⟨I.env.perK, I.env.regK⟩⟩
  have hno : ∀ k, ¬ Listed (Array.replicate ops.size false) k := by
    intro k h
    unfold Listed at h
    by_cases hk : k < ops.size <;> simp [hk] at h
  have hslot : ∀ d, RelV w F m (lens (sts 0).H) (slot T (sts 0) d) (a.tmps.getD d undef) := by
    intro d
    rw [e1]
    unfold slot
    cases T.K d
    · exact I.env.reg d
    · exact I.env.per d
  have hrel : Rel G w F m (sts 0).H := by rw [e1]; exact I.rel
  have D0 : DInv P G T nt as sts vals w0 F0 m0 H0 d0 (Listed (Array.replicate ops.size false)) a w 0 F m :=
    ⟨Nat.zero_le _, fun k y h => by omega, fun k y _ _ h => absurd h (hno k), hrel, by rw [e1]; exact I.grow, by rw [e1]; exact I.fwd, I.defers, I.env.size, fun i h => by omega, fun j h => by omega,
      fun i hi id b r h1 h2 h3 h4 => by
        have : i = 0 := by omega
        subst this
        exact hrel.block_lt h3 h2 r h4, fun j y d h => absurd h (hno j), fun d _ => hslot d, fun d r hr => hrel.bnd (hslot d) r hr⟩
  refine any_sound hC c (by rw [e1]; exact I.grow.len) (fun a1 w1 F1 m1 I1 => hQ a1 w1 F1 m1 (by rw [← e2]; exact I1)) ops.size _ a w 0 F m (by simp) (by simp) (fun i o h => absurd h (hno i)) D0
end
end
section
theorem Env.get_take (e : Env) (k n : Nat) : Env.get (e.take k) n = e.get n ∨ Env.get (e.take k) n = .unk := by
  induction e generalizing k with
  | nil => left; simp
  | cons q e ih =>
    obtain ⟨j, x⟩ := q
    cases k with
    | zero => right; rfl
    | succ k =>
      simp only [List.take_succ_cons, Env.get]
      cases Nat.beq j n
      · exact ih k
      · left; rfl
theorem Env.get_erase (e : Env) (k n : Nat) : (e.erase k).get n = e.get n ∨ (e.erase k).get n = .unk := by
  by_cases hk : k = n
  · subst hk
    right
    induction e with
    | nil => rfl
    | cons q e ih =>
      obtain ⟨j, x⟩ := q
      simp only [Env.erase]
      cases h : Nat.beq j k
      · simp only [Env.get, h]; exact ih
      · exact ih
  · left
    induction e with
    | nil => rfl
    | cons q e ih =>
      obtain ⟨j, x⟩ := q
      simp only [Env.erase]
      cases h : Nat.beq j k
      · simp only [Env.get]; cases Nat.beq j n
        · exact ih
        · rfl
      · have : j = k := Nat.eq_of_beq_eq_true h
        subst this
        simp only [Env.get, nbeq hk]; exact ih
theorem Env.mem_get {e : Env} {n : Nat} {v : PV} (h : e.get n = v) : v = .unk ∨ v ∈ e.map (·.2) := by
  induction e with
  | nil => left; exact h.symm
  | cons q e ih =>
    obtain ⟨j, x⟩ := q
    simp only [Env.get] at h
    cases hj : Nat.beq j n
    · rw [hj] at h
      rcases ih h with h | h
      · exact .inl h
      · exact .inr (List.mem_cons_of_mem _ h)
    · rw [hj] at h
      right; simp only at h; subst h; exact List.mem_cons_self
section
variable {P : Program} {G : Nat → Option (List PV)} {T : Tell} {nt : Nat} {w0 : World} {F0 : Nat → Prop} {m0 : Map} {H0 : Heap} {d0 : List Deferred}
structure Trimmed (G : Nat → Option (List PV)) (w0 : World) (F0 : Nat → Prop) (m0 : Map) (H0 : Heap) (roots : List PV) (w : World) (F : Nat → Prop) (m : Map) (H H' : Heap) (ed : Edges) (m' : Map) : Prop where
  rel : Rel G w F m' H'
  grow : Grow w0 F0 m0 H0 w F m' H'
  fwd : Fwd m' H0 H' ed
  val : ∀ p v, p ∈ roots → RelV w F m (lens H) p v → RelV w F m' (lens H') p v
theorem mem_bare {n : Nat} {l : List Nat} (h : bare n l = true) : ∀ r ∈ l, r < n := fun r hr => by
  have := List.all_eq_true.1 h r hr
  simpa using this
theorem trim_sound {st : St} {a : Act} {w : World} {F : Nat → Prop} {m : Map} (R0 : Rel G w0 F0 m0 H0) (I : Inv G T nt w0 F0 m0 H0 d0 st a w F m) {n : Nat} (hn : H0.length ≤ n) (roots : List PV) :
    ∃ m', Trimmed G w0 F0 m0 H0 roots w F m st.H (trim n roots st.H st.ed).1 (trim n roots st.H st.ed).2 m' := by
  unfold trim
  split
  · rename_i hb
    simp only [Bool.and_eq_true] at hb
    obtain ⟨hb1, hb2⟩ := hb
    have hed : ∀ e ∈ st.ed, n ≤ e.1 ∨ e.2 < n := fun e he => by
      have := List.all_eq_true.1 hb2 e he
      simpa using this
    have hc : ∀ id b r, id < n → m id ≠ .unk → st.H[id]? = some b → r ∈ brefs b → r < n := by
      intro id b r hid hm hb hr
      by_cases hlt : id < r
      · rcases I.fwd id b r hm hb hr hlt with ⟨b0, h1, h2⟩ | h
        · have h0 : id < H0.length := (List.getElem?_eq_some_iff.1 h1).1
          have hm0 : m0 id ≠ .unk := fun h => by have := I.grow.fresh id h hm; omega
          have := R0.block_lt h1 hm0 r h2
          omega
        · rcases hed _ h with h | h
          · simp only at h; omega
          · exact h
      · omega
    refine ⟨m.restr n, I.rel.restr n hc, ?_, ?_, fun p v hp hv => hv.restr fun r hr => mem_bare hb1 r (mem_refsL.2 ⟨p, hp, hr⟩)⟩
    · have g := I.grow
      refine ⟨g.heap, g.sub, g.new, g.old, fun id hid => ?_, fun b ⟨id, o, c, s, h⟩ => ?_, g.os, g.tape, g.output, g.froz, ?_, fun id h1 h2 => ?_⟩
      · have hl : id < n := Nat.lt_of_lt_of_le (R0.lt_of_ne hid) hn
        obtain ⟨k1, k2, k3⟩ := g.locs id hid
        rw [Map.restr_lt m hl, lens_take _ hl]
        exact ⟨k1, k2, k3⟩
      · have k1 := Map.restr_ne (m := m) (n := n) (id := id) (by rw [h]; simp)
        exact g.img b ⟨id, o, c, s, k1.2.2 ▸ h⟩
      · have := g.len; simp only [List.length_take]; omega
      · exact g.fresh id h1 (Map.restr_ne h2).2.1
    · intro id b r hm hb hr hlt
      obtain ⟨k1, k2, k3⟩ := Map.restr_ne hm
      simp only at hb
      rw [List.getElem?_take, if_pos k1] at hb
      rcases I.fwd id b r k2 hb hr hlt with h | h
      · exact .inl h
      · exact .inr (List.mem_filter.2 ⟨h, by simpa using hc id b r k1 k2 hb hr⟩)
  · exact ⟨m, I.rel, I.grow, I.fwd, fun _ _ _ h => h⟩
theorem next_sound {st st0 : St} {a : Act} {w : World} {F : Nat → Prop} {m : Map} (R0 : Rel G w0 F0 m0 H0) (I : Inv G T nt w0 F0 m0 H0 d0 st a w F m) (hn : H0.length ≤ st0.H.length) : ∃ m', Inv G T nt w0 F0 m0 H0 d0 (st0.next st) a w F m' := by
  obtain ⟨m', t⟩ := trim_sound R0 I hn ((st.per.take st0.per.length).map (·.2))
  refine ⟨m', t.rel, ⟨I.env.size, fun n => ?_, fun n => RelV.unk' _, fun n hk => ?_, fun n _ => rfl⟩, t.grow, t.fwd, I.defers⟩
  · show RelV w F m' _ (Env.get (st.per.take st0.per.length) n) _
    rcases Env.mem_get (e := st.per.take st0.per.length) (n := n) rfl with h | h
    · rw [h]; exact RelV.unk' _
    · refine t.val _ _ h ?_
      rcases Env.get_take st.per st0.per.length n with h | h
      · rw [h]; exact I.env.per n
      · rw [h]; exact RelV.unk' _
  · show Env.get (st.per.take st0.per.length) n = _
    rcases Env.get_take st.per st0.per.length n with h | h
    · rw [h]; exact I.env.perK n hk
    · exact h
theorem gone_sound {gone : Bool} {c : Opd} {st : St} {a : Act} {w : World} {F : Nat → Prop} {m : Map} (I : Inv G T nt w0 F0 m0 H0 d0 st a w F m) : Inv G T nt w0 F0 m0 H0 d0 (goneIn gone c st) a w F m := by
  unfold goneIn
  split
  · split
    · rename_i k
      refine ⟨I.rel, ⟨I.env.size, fun n => ?_, I.env.reg, fun n hk => ?_, I.env.regK⟩, I.grow, I.fwd, I.defers⟩
      · show RelV w F m _ ((st.per.erase k).get n) _
        rcases Env.get_erase st.per k n with h | h
        · rw [h]; exact I.env.per n
        · rw [h]; exact RelV.unk' _
      · show (st.per.erase k).get n = _
        rcases Env.get_erase st.per k n with h | h
        · rw [h]; exact I.env.perK n hk
        · exact h
    · exact I
  · exact I
def AExit.up : AExit → Exit
  | .normal => .normal
  | .exit id => .exit id
  | .ret => .ret
theorem Inv.clear {st : St} {a : Act} {w : World} {F : Nat → Prop} {m : Map} (I : Inv G T nt w0 F0 m0 H0 d0 st a w F m) : Inv G T nt w0 F0 m0 H0 d0 { st with reg := [] } a w F m :=
  ⟨I.rel, I.env.clear RelV.unk', I.grow, I.fwd, I.defers⟩
theorem addClears_spec {ms : List Nat} {as : List AOper} : ∀ {i : Nat} {ys : List AOper}, (addClears ms as i ys).length = ys.length ∧ ∀ (k : Nat) (y : AOper), (addClears ms as i ys)[k]? = some y → ∃ x, ys[k]? = some x ∧ y.op = x.op ∧ y.dst = x.dst ∧ y.guard = x.guard
  | i, [] => by simp [addClears]
  | i, y :: ys => by
    obtain ⟨h1, h2⟩ := addClears_spec (ms := ms) (as := as) (i := i + 1) (ys := ys)
    refine ⟨by simp [addClears, h1], fun k z hk => ?_⟩
    cases k with
    | zero => simp only [addClears, List.getElem?_cons_zero, Option.some.injEq] at hk; subst hk; exact ⟨y, rfl, rfl, rfl, rfl⟩
    | succ k => exact h2 k z (by simpa [addClears] using hk)
def CodeOk (P : Program) (A : AProg) (n : Nat) : Prop :=
  ∀ (c : Code) (ac : AC) (st st' : St) (ae : AExit) (T : Tell) (nt : Nat), trCode P T nt c = some ac → ev A n ac st = some (ae, st') →
    ∀ (w0 : World) (F0 : Nat → Prop) (m0 : Map) (H0 : Heap) (d0 : List Deferred) (a : Act) (w : World) (F : Nat → Prop) (m : Map), Rel A.glob w0 F0 m0 H0 → Inv A.glob T nt w0 F0 m0 H0 d0 st a w F m →
      ∀ Q : Exit → Act → World → Prop, (∀ a1 w1 F1 m1, Inv A.glob T nt w0 F0 m0 H0 d0 st' a1 w1 F1 m1 → Q ae.up a1 w1) → c.wp P Q a w
def LoopOk (P : Program) (A : AProg) (n : Nat) : Prop :=
  ∀ (c : Code) (ac : AC) (st st' : St) (ae : AExit) (T : Tell) (nt : Nat), trCode P T nt c = some ac → ev A n (.loop ac) st = some (ae, st') →
    ∀ (w0 : World) (F0 : Nat → Prop) (m0 : Map) (H0 : Heap) (d0 : List Deferred) (a : Act) (w : World) (F : Nat → Prop) (m : Map), Rel A.glob w0 F0 m0 H0 → Inv A.glob T nt w0 F0 m0 H0 d0 st a w F m →
      ∀ Q : Exit → Act → World → Prop, (∀ a1 w1 F1 m1, Inv A.glob T nt w0 F0 m0 H0 d0 st' a1 w1 F1 m1 → Q ae.up a1 w1) → Code.rounds P c Q n a w
theorem loop_step {A : AProg} {n : Nat} (hc : CodeOk P A n) (hl : LoopOk P A n) : LoopOk P A (n + 1) := by
  intro c ac st st' ae T nt ht he w0 F0 m0 H0 d0 a w F m R0 I Q hQ
  rw [ev_loop] at he
  rw [rounds_succ]
  cases hb : ev A n ac st with
  | none => simp [hb] at he
  | some x =>
    obtain ⟨e, st1⟩ := x
    refine hc c ac st st1 e T nt ht hb w0 F0 m0 H0 d0 a w F m R0 I _ fun a1 w1 F1 m1 I1 => ?_
    rw [hb] at he
    cases e with
    | normal =>
      obtain ⟨m2, I2⟩ := next_sound (st0 := st) R0 I1 I.grow.len
      exact hl c ac _ st' ae T nt ht he w0 F0 m0 H0 d0 a1 w1 F1 m2 R0 I2 Q hQ
    | exit id => simp only [Option.some.injEq, Prod.mk.injEq] at he; obtain ⟨rfl, rfl⟩ := he; exact hQ a1 w1 F1 m1 I1
    | ret => simp only [Option.some.injEq, Prod.mk.injEq] at he; obtain ⟨rfl, rfl⟩ := he; exact hQ a1 w1 F1 m1 I1
theorem code_step (hm : P.follows .mixedOrders = true) {A : AProg} {n : Nat} (hcl : ClOk P A.glob ⟨evP A n, evS A n⟩) (hc : CodeOk P A n) (hl : LoopOk P A (n + 1)) : CodeOk P A (n + 1) := by
  intro c ac st st' ae T nt ht he w0 F0 m0 H0 d0 a w F m R0 I Q hQ
  cases c with
  | skip =>
    simp only [trCode, Option.some.injEq] at ht; subst ht
    rw [ev_skip] at he
    simp only [Option.some.injEq, Prod.mk.injEq] at he; obtain ⟨rfl, rfl⟩ := he
    exact wp_skip (hQ a w F m I)
  | exit id =>
    simp only [trCode, Option.some.injEq] at ht; subst ht
    simp only [ev, Option.some.injEq, Prod.mk.injEq] at he; obtain ⟨rfl, rfl⟩ := he
    exact wp_exit (hQ a w F m I)
  | ret =>
    simp only [trCode, Option.some.injEq] at ht; subst ht
    simp only [ev, Option.some.injEq, Prod.mk.injEq] at he; obtain ⟨rfl, rfl⟩ := he
    exact wp_ret (hQ a w F m I)
  | region id ops draw =>
    simp only [trCode] at ht
    split at ht
    · rename_i as has
      obtain ⟨hlen, hops⟩ := trOpers_spec has
      cases draw with
      | false =>
        simp only [Option.some.injEq] at ht; subst ht
        rw [ev_region] at he
        split at he
        · rename_i st1 h1
          simp only [Option.some.injEq, Prod.mk.injEq] at he; obtain ⟨rfl, rfl⟩ := he
          refine wp_region ?_
          rw [List.range_eq_range', ← Array.length_toList]
          exact ops_sound hcl has (fun k o hk => by simpa using hk) h1 I.clear fun a1 w1 F1 m1 I1 => hQ a1 w1 F1 m1 I1.clear
        · cases he
      | true =>
        simp only at ht
        split at ht
        · rename_i hok
          simp only [Option.some.injEq] at ht; subst ht
          rw [ev_region] at he
          split at he
          · rename_i st1 h1
            simp only [Option.some.injEq, Prod.mk.injEq] at he; obtain ⟨rfl, rfl⟩ := he
            have hsp := addClears_spec (ms := masks ops.toList []) (as := as) (i := 0) (ys := as)
            refine wp_region_any hm (draw_sound hcl (by rw [hsp.1, hlen, Array.length_toList]) (fun i o ao hi ha => ?_) hok h1 (w := { w with drawn := w.drawn + 1 }) (F := F) (m := m) ?_ fun a1 w1 F1 m1 I1 => hQ a1 w1 F1 m1 I1.clear)
            · obtain ⟨x, k1, k2, k3, k4⟩ := hsp.2 i ao ha
              have := hops i o x (by simpa using hi) k1
              exact ⟨by rw [k2]; exact this.op, by rw [k3]; exact this.dst, by rw [k4]; exact this.guard⟩
            · obtain ⟨R1, g1, _⟩ := I.rel.world (w' := { w with drawn := w.drawn + 1 }) (F' := F) (Nat.le_refl _) (fun _ _ => rfl) ⟨rfl, rfl, rfl, fun _ => rfl⟩ (fun _ h => h) (fun _ h => .inl h) I.rel.ltF
              exact (⟨R1, I.env.mono fun p v h => h.grow I.rel g1, I.grow.trans g1, I.fwd, I.defers⟩ : Inv A.glob T nt w0 F0 m0 H0 d0 st a _ F m).clear
          · cases he
        · cases ht
    · cases ht
  | seq x y =>
    simp only [trCode] at ht
    split at ht
    · rename_i ax ay hx hy
      simp only [Option.some.injEq] at ht; subst ht
      rw [ev_seq] at he
      cases ha : ev A n ax st with
      | none => simp [ha] at he
      | some r =>
        obtain ⟨e, st1⟩ := r
        rw [ha] at he
        refine wp_seq (hc x ax st st1 e T nt hx ha w0 F0 m0 H0 d0 a w F m R0 I _ fun a1 w1 F1 m1 I1 => ?_)
        cases e with
        | normal => exact hc y ay st1 st' ae T nt hy he w0 F0 m0 H0 d0 a1 w1 F1 m1 R0 I1 Q hQ
        | exit id => simp only [Option.some.injEq, Prod.mk.injEq] at he; obtain ⟨rfl, rfl⟩ := he; exact hQ a1 w1 F1 m1 I1
        | ret => simp only [Option.some.injEq, Prod.mk.injEq] at he; obtain ⟨rfl, rfl⟩ := he; exact hQ a1 w1 F1 m1 I1
    · cases ht
  | cond b x y =>
    simp only [trCode] at ht
    split at ht
    · rename_i b' ax ay hb hx hy
      simp only [Option.some.injEq] at ht; subst ht
      rw [ev_cond] at he
      split at he
      · rename_i t hbt
        have hv := opd_sound I.rel I.env hb
        rw [hbt] at hv
        have hv := bool_inv hv
        cases t with
        | true => exact wp_cond_true hv (hc x ax _ st' ae T nt hx he w0 F0 m0 H0 d0 a w F m R0 (gone_sound I) Q hQ)
        | false => exact wp_cond_false hv (hc y ay _ st' ae T nt hy he w0 F0 m0 H0 d0 a w F m R0 (gone_sound I) Q hQ)
      · cases he
    · cases ht
  | block id b =>
    simp only [trCode] at ht
    split at ht
    · rename_i ab hb
      simp only [Option.some.injEq] at ht; subst ht
      rw [ev_block] at he
      cases ha : ev A n ab st with
      | none => simp [ha] at he
      | some r =>
        obtain ⟨e, st1⟩ := r
        rw [ha] at he
        refine wp_block (hc b ab st st1 e T nt hb ha w0 F0 m0 H0 d0 a w F m R0 I _ fun a1 w1 F1 m1 I1 => ?_)
        cases e with
        | normal => simp only [Option.some.injEq, Prod.mk.injEq] at he; obtain ⟨rfl, rfl⟩ := he; exact hQ a1 w1 F1 m1 I1
        | ret => simp only [Option.some.injEq, Prod.mk.injEq] at he; obtain ⟨rfl, rfl⟩ := he; exact hQ a1 w1 F1 m1 I1
        | exit id' =>
          simp only at he
          split at he
          · rename_i hbq
            have := Nat.eq_of_beq_eq_true hbq
            simp only [Option.some.injEq, Prod.mk.injEq] at he; obtain ⟨rfl, rfl⟩ := he
            simp only [AExit.up, Exit.inBlock, this, if_true]
            exact hQ a1 w1 F1 m1 I1
          · rename_i hbq
            have : id' ≠ id := fun e => by subst e; simp at hbq
            simp only [Option.some.injEq, Prod.mk.injEq] at he; obtain ⟨rfl, rfl⟩ := he
            simp only [AExit.up, Exit.inBlock, this, if_false]
            exact hQ a1 w1 F1 m1 I1
    · cases ht
  | loop b =>
    simp only [trCode] at ht
    split at ht
    · rename_i ab hb
      simp only [Option.some.injEq] at ht; subst ht
      exact wp_loop_rounds (n + 1) (hl b ab st st' ae T nt hb he w0 F0 m0 H0 d0 a w F m R0 I Q hQ)
    · cases ht
  | _ => simp [trCode] at ht
end
end
section
section
variable {P : Program} {G : Nat → Option (List PV)} {T : Tell} {nt : Nat} {w0 : World} {F0 : Nat → Prop} {m0 : Map} {H0 : Heap} {d0 : List Deferred}
def resOne (tmps : Array Value) : ResultVar → Sem Value
  | .tmp t => pure (tmps.getD t undef)
  | .cell a t => do loadVar t (← asAddr (tmps.getD a undef))
theorem results_eq (fn : Func) (tmps : Array Value) : Go.results fn tmps = (do
    let vs ← fn.results.mapM (resOne tmps)
    pure (if h : vs.size = 1 then vs[0] else .tuple vs)) := rfl
theorem run_mapM {w : World} {α : Type} {f : α → Sem Value} : ∀ {l : List α} {vs : List Value}, vs.length = l.length → (∀ (i : Nat) (x : α) (v : Value), l[i]? = some x → vs[i]? = some v → (f x).run P w = .ok v w) → (l.mapM f).run P w = .ok vs w
  | [], vs, hl, _ => by
    have : vs = [] := by cases vs <;> simp_all
    subst this; simp
  | x :: l, vs, hl, h => by
    cases vs with
    | nil => simp at hl
    | cons v vs =>
      have h0 := h 0 x v rfl rfl
      have hr := run_mapM (l := l) (vs := vs) (by simpa using hl) fun i x v hi hv => h (i + 1) x v (by simpa using hi) (by simpa using hv)
      simp [List.mapM_cons, h0, hr]
theorem res_one {st : St} {a : Act} {w : World} {F : Nat → Prop} {m : Map} (I : Inv G T nt w0 F0 m0 H0 d0 st a w F m) {r : ResultVar} {rs : List ResultVar} {ar : ARes} {ars : List ARes} (ht : trRes P T (r :: rs) = some (ar :: ars)) {v : PV} (hv : ar.get st = some v) :
    trRes P T rs = some ars ∧ ∃ cv, (resOne a.tmps r).run P w = .ok cv w ∧ RelV w F m (lens st.H) v cv := by
  cases r with
  | tmp t =>
    simp only [trRes] at ht
    split at ht
    · rename_i xs hk hx
      simp only [Option.some.injEq, List.cons.injEq] at ht
      obtain ⟨rfl, rfl⟩ := ht
      simp only [ARes.get, Option.some.injEq] at hv
      subst hv
      exact ⟨hx, _, by simp [resOne], I.env.per t⟩
    · cases ht
  | cell n t =>
    simp only [trRes] at ht
    split at ht
    · rename_i g sz xs hk hg hs hx
      simp only [Option.some.injEq, List.cons.injEq] at ht
      obtain ⟨rfl, rfl⟩ := ht
      refine ⟨hx, ?_⟩
      simp only [ARes.get] at hv
      split at hv
      · rename_i cs hc
        obtain ⟨blk, off, hxx, hl⟩ := I.rel.cellsAt hc (I.env.per n)
        obtain ⟨i, hi, hi2⟩ := tySize_spec hs
        have ha := tyAgg_spec hg w
        obtain ⟨vs, h1, h2, h3⟩ := hl.all2
        rcases take_sound (R := RelV w F m (lens st.H)) hv with ⟨rfl, hle, rfl⟩ | ⟨rfl, h0⟩
        · have hlc := run_loadCells_list (P := P) w ⟨blk, off, none⟩ (vs.take sz) (fun j v hj => by
            rw [add_none]
            rw [List.getElem?_take] at hj
            split at hj
            · exact h3 j v hj
            · cases hj)
          rw [List.length_take, Nat.min_eq_left (by rw [h1.1]; exact hle)] at hlc
          exact ⟨.agg (vs.take sz).toArray, by simp [resOne, asAddr, hxx, loadVar, ha, sizeOf, typeInfo, hi, hi2, hlc], .agg _ _ (h1.take sz).1 (fun u hu => h2 u (List.mem_of_mem_take hu)) (h1.take sz).2⟩
        · obtain ⟨u, hu, hr⟩ := h1.get h0
          have := h3 0 u hu
          rw [Nat.add_zero] at this
          exact ⟨u, by simp [resOne, asAddr, hxx, loadVar, ha, this], hr⟩
      · cases hv
    · cases ht
theorem results_all {st : St} {a : Act} {w : World} {F : Nat → Prop} {m : Map} (I : Inv G T nt w0 F0 m0 H0 d0 st a w F m) : ∀ {rs : List ResultVar} {ars : List ARes} {vs : List PV}, trRes P T rs = some ars → results st ars = some vs →
    ∃ cvs : List Value, cvs.length = rs.length ∧ (∀ (i : Nat) (x : ResultVar) (v : Value), rs[i]? = some x → cvs[i]? = some v → (resOne a.tmps x).run P w = .ok v w) ∧ All2 (RelV w F m (lens st.H)) vs cvs
  | [], ars, vs, ht, hv => by
    simp only [trRes, Option.some.injEq] at ht
    subst ht
    simp only [results, Option.some.injEq] at hv
    subst hv
    exact ⟨[], rfl, by simp, All2.nil⟩
  | r :: rs, [], vs, ht, hv => by
    cases r <;> simp only [trRes] at ht <;> split at ht <;> cases ht
  | r :: rs, ar :: ars, vs, ht, hv => by
    simp only [results] at hv
    split at hv
    · rename_i v vs' h1 h2
      injection hv with hv
      subst hv
      obtain ⟨k1, cv, k2, k3⟩ := res_one I ht h1
      obtain ⟨cvs, e1, e2, e3⟩ := results_all I k1 h2
      refine ⟨cv :: cvs, by simp [e1], fun i x v hi hv => ?_, All2.cons k3 e3⟩
      cases i with
      | zero => simp only [List.getElem?_cons_zero, Option.some.injEq] at hi hv; subst hi; subst hv; exact k2
      | succ i => exact e2 i x v (by simpa using hi) (by simpa using hv)
    · cases hv
theorem results_sound {st : St} {a : Act} {w : World} {F : Nat → Prop} {m : Map} (I : Inv G T nt w0 F0 m0 H0 d0 st a w F m) {fn : Func} {ars : List ARes} {vs : List PV} (ht : trRes P T fn.results.toList = some ars) (hv : results st ars = some vs) :
    ∃ cv, (Go.results fn a.tmps).run P w = .ok cv w ∧ RelV w F m (lens st.H) (resVal vs) cv := by
  obtain ⟨cvs, h1, h2, h3⟩ := results_all I ht hv
  have hm : (fn.results.mapM (resOne a.tmps)).run P w = .ok cvs.toArray w := by
    have := run_mapM h1 h2
    rw [Array.mapM_eq_mapM_toList]
    simp [this]
  refine ⟨if h : cvs.toArray.size = 1 then cvs.toArray[0] else .tuple cvs.toArray, by rw [results_eq]; simp [hm], ?_⟩
  match vs, cvs, h3 with
  | [], [], h3 => exact .tup [] [] rfl h3.2
  | [v], [cv], h3 => simpa [resVal] using h3.2 0 v cv rfl rfl
  | v :: v' :: vs, cv :: cv' :: cvs, h3 => exact .tup _ (cv :: cv' :: cvs) h3.1 h3.2
  | [], _ :: _, h3 => have := h3.1; simp at this
  | [_], [], h3 => have := h3.1; simp at this
  | [_], _ :: _ :: _, h3 => have := h3.1; simp at this
  | _ :: _ :: _, [], h3 => have := h3.1; simp at this
  | _ :: _ :: _, [_], h3 => have := h3.1; simp at this
end
theorem get_params : ∀ (k : Nat) (args : List PV) (n : Nat), (params k args).get n = if k ≤ n then (args[n - k]?).getD .unk else .unk
  | k, [], n => by simp [params, Env.get]
  | k, v :: vs, n => by
    simp only [params, Env.get]
    by_cases h : k = n
    · subst h; simp
    · rw [nbeq h]
      simp only
      rw [get_params (k + 1) vs n]
      by_cases h2 : k + 1 ≤ n
      · rw [if_pos h2, if_pos (by omega), show n - k = (n - (k + 1)) + 1 by omega]; rfl
      · rw [if_neg h2, if_neg (by omega)]
def Fits (P : Program) (A : AProg) : Prop := ∀ f F, A.fn f = some F → ∃ fn T c, P.funcs[f]? = some fn ∧ fn.body = some c ∧ trFn P T fn = some F ∧ trBody P f = true
theorem trFn_spec {P : Program} {T : Tell} {fn : Func} {c : Code} {F : AFn} (hb : fn.body = some c) (h : trFn P T fn = some F) : trCode P T fn.ntmps c = some F.code ∧ trRes P T fn.results.toList = some F.res ∧ (∀ n, n < F.np → T.K n = true) ∧ F.np ≤ fn.ntmps := by
  unfold trFn at h
  rw [hb] at h
  simp only at h
  split at h
  · rename_i x rs h1 h2
    split at h
    · rename_i hk
      injection h with h
      subst h
      simp only [Bool.and_eq_true] at hk
      refine ⟨h1, h2, fun n hn => ?_, Nat.le_of_ble_eq_true hk.2⟩
      have := List.all_eq_true.1 hk.1 n (by simpa using hn)
      exact this
    · cases h
  · cases h
section
variable {P : Program} {A : AProg}
theorem start_env {T : Tell} {nt np : Nat} {R : PV → Value → Prop} (hU : ∀ x, R .unk x) {args : List PV} {us : List Value} (h : All2 R args us) (hn : np = args.length) (hk : ∀ n, n < np → T.K n = true) (hle : np ≤ nt) (H : Heap) :
    RelE T nt R { per := params 0 args, reg := [], H := H, ed := [] } { tmps := us.toArray ++ Array.replicate (nt - us.toArray.size) undef, defers := [] } := by
  have hus : us.length = np := by rw [hn, h.1]
  refine ⟨by simp; omega, fun n => ?_, fun n => hU _, fun n hn' => ?_, fun n _ => rfl⟩
  · show R ((params 0 args).get n) _
    rw [get_params]
    simp only [Nat.zero_le, if_true, Nat.sub_zero]
    cases ha : args[n]? with
    | none => exact hU _
    | some p =>
      have hlt := (List.getElem?_eq_some_iff.1 ha).1
      obtain ⟨u, hu, hr⟩ := h.get ha
      have hg : (us.toArray ++ Array.replicate (nt - us.toArray.size) undef).getD n undef = u := by
        have h1 : n < us.length := by omega
        simp only [Array.getD_eq_getD_getElem?, Array.getElem?_append, List.size_toArray, h1, if_true, List.getElem?_toArray, hu, Option.getD_some]
      rw [hg]; exact hr
  · show (params 0 args).get n = _
    rw [get_params]
    simp only [Nat.zero_le, if_true, Nat.sub_zero]
    cases ha : args[n]? with
    | none => rfl
    | some p =>
      have hlt := (List.getElem?_eq_some_iff.1 ha).1
      rw [hk n (by omega)] at hn'
      cases hn'
theorem pure_step (hfit : Fits P A) {n : Nat} (hc : CodeOk P A n) {f : Nat} {args : List PV} {v : PV} (he : evP A (n + 1) f args = some v) (w : World) (F : Nat → Prop) (us : List Value) (hargs : All2 (RelF w F) args us) (hF : ∀ b, F b → b < w.heap.size)
    (hG : ∀ g cs, A.glob g = some cs → RelF w F (.fp cs 0) (.pointer (some ⟨g, 0, none⟩))) :
    Calls P f us.toArray w fun e w' => ∃ cv, e = .returned cv ∧ w.heap.size ≤ w'.heap.size ∧ (∀ b, b < w.heap.size → w'.heap[b]? = w.heap[b]?) ∧ (w'.os = w.os ∧ w'.tape = w.tape ∧ w'.output = w.output ∧ ∀ a, w'.frozen? a = w.frozen? a) ∧
      ∃ F', (∀ b, F b → F' b) ∧ (∀ b, F' b → F b ∨ w.heap.size ≤ b) ∧ (∀ b, F' b → b < w'.heap.size) ∧ RelF w' F' v cv := by
  rw [evP_step] at he
  split at he
  · cases he
  · rename_i AF hAF
    obtain ⟨fn, T, c, h1, h2, h3, h4⟩ := hfit f AF hAF
    obtain ⟨k1, k2, k3, k4⟩ := trFn_spec h2 h3
    split at he
    · rename_i hnp
      have hnp : AF.np = args.length := by simpa using hnp
      refine calls_of_wp h1 h2 ?_
      have hno : ∀ b, ¬ Map.has (fun _ => Loc.unk) b := by rintro b ⟨id, o, c, s, h⟩; cases h
      have R0 : Rel A.glob w F (fun _ => .unk) [] := ⟨fun _ _ _ _ => .inl rfl, fun _ _ _ => .inl rfl, fun _ _ => rfl, fun _ _ _ _ _ _ _ _ _ h _ => (by cases h), fun b h => absurd h (hno b), hF, fun b h => absurd h (hno b), hG⟩
      have I0 : Inv A.glob T fn.ntmps w F (fun _ => .unk) [] [] { per := params 0 args, reg := [], H := [], ed := [] } { tmps := us.toArray ++ Array.replicate (fn.ntmps - us.toArray.size) undef, defers := [] } w F (fun _ => .unk) :=
        ⟨R0, start_env (R := RelV w F (fun _ => .unk) (lens [])) RelV.unk' ⟨hargs.1, fun i p v a b => .froz _ _ (hargs.2 i p v a b)⟩ hnp k3 k4 [], Grow.refl .., Fwd.refl _ _, rfl⟩
      have fin : ∀ (st : St) (a1 : Act) (w1 : World) (F1 : Nat → Prop) (m1 : Map), Inv A.glob T fn.ntmps w F (fun _ => .unk) [] [] st a1 w1 F1 m1 → (match results st AF.res with | some vs => some (frz 8 st.H (resVal vs)) | none => none) = some v →
          a1.defers = [] ∧ ∃ cv, (Go.results fn a1.tmps).run P w1 = .ok cv w1 ∧ ∃ cv', Ending.returned cv = .returned cv' ∧ w.heap.size ≤ w1.heap.size ∧ (∀ b, b < w.heap.size → w1.heap[b]? = w.heap[b]?) ∧ (w1.os = w.os ∧ w1.tape = w.tape ∧ w1.output = w.output ∧ ∀ a, w1.frozen? a = w.frozen? a) ∧
            ∃ F', (∀ b, F b → F' b) ∧ (∀ b, F' b → F b ∨ w.heap.size ≤ b) ∧ (∀ b, F' b → b < w1.heap.size) ∧ RelF w1 F' v cv' := by
        intro st a1 w1 F1 m1 I hv
        split at hv
        · rename_i vs hvs
          injection hv with hv
          subst hv
          obtain ⟨cv, q1, q2⟩ := results_sound (P := P) I k2 hvs
          have g := I.grow
          refine ⟨I.defers, cv, q1, cv, rfl, g.heap, fun b hb => g.old b hb (hno b), ⟨g.os, g.tape, g.output, g.froz⟩, fun b => F1 b ∨ m1.has b, fun b hb => .inl (g.sub b hb), fun b hb => ?_, fun b hb => ?_, frz_sound I.rel 8 q2⟩
          · rcases hb with hb | hb
            · exact g.new b hb
            · exact (g.img b hb).imp (fun h => absurd h (hno b)) id
          · rcases hb with hb | hb
            · exact I.rel.ltF b hb
            · exact I.rel.lt b hb
        · cases hv
      cases hev : ev A n AF.code { per := params 0 args, reg := [], H := [], ed := [] } with
      | none => rw [hev] at he; cases he
      | some x =>
        obtain ⟨e, st⟩ := x
        rw [hev] at he
        refine hc c AF.code _ st e T fn.ntmps k1 hev w F _ [] [] _ w F _ R0 I0 _ fun a1 w1 F1 m1 I1 => ?_
        cases e with
        | normal => exact fin st a1 w1 F1 m1 I1 he
        | ret => exact fin st a1 w1 F1 m1 I1 he
        | exit id => cases he
    · cases he
theorem shared_step (hfit : Fits P A) {n : Nat} (hc : CodeOk P A n) {f : Nat} {args : List PV} {H : Heap} {v : PV} {H' : Heap} {ed : Edges} (he : evS A (n + 1) f args H = some (v, H', ed)) (w : World) (F : Nat → Prop) (m : Map) (us : List Value) (R0 : Rel A.glob w F m H)
    (hargs : All2 (RelV w F m (lens H)) args us) :
    Calls P f us.toArray w fun e w' => ∃ cv F' m', e = .returned cv ∧ Rel A.glob w' F' m' H' ∧ Grow w F m H w' F' m' H' ∧ RelV w' F' m' (lens H') v cv ∧ Fwd m' H H' ed := by
  rw [evS_step] at he
  split at he
  · cases he
  · rename_i AF hAF
    obtain ⟨fn, T, c, h1, h2, h3, h4⟩ := hfit f AF hAF
    obtain ⟨k1, k2, k3, k4⟩ := trFn_spec h2 h3
    split at he
    · rename_i hnp
      have hnp : AF.np = args.length := by simpa using hnp
      refine calls_of_wp h1 h2 ?_
      have I0 : Inv A.glob T fn.ntmps w F m H [] { per := params 0 args, reg := [], H := H, ed := [] } { tmps := us.toArray ++ Array.replicate (fn.ntmps - us.toArray.size) undef, defers := [] } w F m :=
        ⟨R0, start_env (R := RelV w F m (lens H)) RelV.unk' hargs hnp k3 k4 H, Grow.refl .., Fwd.refl _ _, rfl⟩
      have fin : ∀ (st : St) (a1 : Act) (w1 : World) (F1 : Nat → Prop) (m1 : Map), Inv A.glob T fn.ntmps w F m H [] st a1 w1 F1 m1 → (match results st AF.res with | some vs => some (resVal vs, (trim H.length vs st.H st.ed).1, (trim H.length vs st.H st.ed).2) | none => none) = some (v, H', ed) →
          a1.defers = [] ∧ ∃ cv, (Go.results fn a1.tmps).run P w1 = .ok cv w1 ∧ ∃ cv' F' m', Ending.returned cv = .returned cv' ∧ Rel A.glob w1 F' m' H' ∧ Grow w F m H w1 F' m' H' ∧ RelV w1 F' m' (lens H') v cv' ∧ Fwd m' H H' ed := by
        intro st a1 w1 F1 m1 I hv
        split at hv
        · rename_i vs hvs
          simp only [Option.some.injEq, Prod.mk.injEq] at hv
          obtain ⟨rfl, rfl, rfl⟩ := hv
          obtain ⟨cv, q1, q2⟩ := results_sound (P := P) I k2 hvs
          obtain ⟨m', t⟩ := trim_sound R0 I (Nat.le_refl _) [resVal vs]
          have e : ∀ n H ed, trim n [resVal vs] H ed = trim n vs H ed := by
            intro n H ed
            have : refsL [resVal vs] = refsL vs := by
              match vs with
              | [] => rfl
              | [v] => rfl
              | v :: v' :: vs => simp [refsL, resVal, refs]
            simp only [trim, this]
          rw [e] at t
          exact ⟨I.defers, cv, q1, cv, F1, m', rfl, t.rel, t.grow, t.val _ _ (by simp) q2, t.fwd⟩
        · cases hv
      cases hev : ev A n AF.code { per := params 0 args, reg := [], H := H, ed := [] } with
      | none => rw [hev] at he; cases he
      | some x =>
        obtain ⟨e, st⟩ := x
        rw [hev] at he
        refine hc c AF.code _ st e T fn.ntmps k1 hev w F m H [] _ w F m R0 I0 _ fun a1 w1 F1 m1 I1 => ?_
        cases e with
        | normal => exact fin st a1 w1 F1 m1 I1 he
        | ret => exact fin st a1 w1 F1 m1 I1 he
        | exit id => cases he
    · cases he
theorem all_sound (hm : P.follows .mixedOrders = true) (hfit : Fits P A) : ∀ n, CodeOk P A n ∧ LoopOk P A n ∧ ClOk P A.glob ⟨evP A n, evS A n⟩
  | 0 => ⟨fun _ _ _ _ _ _ _ _ h => by simp [ev] at h, fun _ _ _ _ _ _ _ _ h => by simp [ev] at h, ⟨fun _ _ _ h => by simp [evP] at h, fun _ _ _ _ h => by simp [evS] at h, fun _ _ _ h => by simp [evP] at h, fun _ _ _ _ _ _ h => by simp [evS] at h⟩⟩
  | n + 1 => by
    obtain ⟨h1, h2, h3⟩ := all_sound hm hfit n
    have hl := loop_step h1 h2
    refine ⟨code_step hm h3 h1 hl, hl, fun f args v he => ?_, fun f args H v he => ?_, fun f args v he w F us a b c => pure_step hfit h1 he w F us a b c, fun f args H v H' ed he w F m us a b => shared_step hfit h1 he w F m us a b⟩
    · simp only [evP_step] at he
      split at he
      · cases he
      · rename_i AF hAF
        obtain ⟨_, _, _, _, _, _, h⟩ := hfit f AF hAF
        exact h
    · simp only [evS_step] at he
      split at he
      · cases he
      · rename_i AF hAF
        obtain ⟨_, _, _, _, _, _, h⟩ := hfit f AF hAF
        exact h
theorem EP_calls (hm : P.follows .mixedOrders = true) (hfit : Fits P A) {f : Nat} {args : List PV} {v : PV} (he : EP A f args = some v) (w : World) (F : Nat → Prop) (us : List Value) (hargs : All2 (RelF w F) args us) (hF : ∀ b, F b → b < w.heap.size)
    (hG : ∀ g cs, A.glob g = some cs → RelF w F (.fp cs 0) (.pointer (some ⟨g, 0, none⟩))) :
    Calls P f us.toArray w fun e w' => ∃ cv, e = .returned cv ∧ w.heap.size ≤ w'.heap.size ∧ (∀ b, b < w.heap.size → w'.heap[b]? = w.heap[b]?) ∧ (w'.os = w.os ∧ w'.tape = w.tape ∧ w'.output = w.output ∧ ∀ a, w'.frozen? a = w.frozen? a) ∧
      ∃ F', (∀ b, F b → F' b) ∧ (∀ b, F' b → F b ∨ w.heap.size ≤ b) ∧ (∀ b, F' b → b < w'.heap.size) ∧ RelF w' F' v cv := by
  obtain ⟨n, hn⟩ := (EP_iff _ _ _).1 he
  exact (all_sound hm hfit n).2.2.pure f args v hn w F us hargs hF hG
end
end
def Old (w : World) (b : Nat) : Prop := b < w.heap.size
theorem grown_of {w w' : World} (h1 : w.heap.size ≤ w'.heap.size) (h2 : ∀ b, b < w.heap.size → w'.heap[b]? = w.heap[b]?) (h3 : w'.os = w.os ∧ w'.tape = w.tape ∧ w'.output = w.output ∧ ∀ a, w'.frozen? a = w.frozen? a) : RowKit.Grown w w' := by
  refine ⟨⟨h3.1, h3.2.2.1, fun i hi => ?_⟩, h3.2.2.2, h1⟩
  rw [h2 i hi]
  cases hh : w.heap[i]? with
  | none => rfl
  | some o =>
    cases o with
    | cells c t fr => obtain ⟨lo, hi'⟩ := fr; exact ⟨rfl, rfl, rfl, fun _ _ => rfl⟩
    | map es clock => exact .inr ⟨rfl, rfl⟩
    | _ => rfl
section
inductive Sh where
  | bool
  | int (k : IntKind)
  | flt (k : FloatKind)
  | str
  | slice (es : List Sh)
  deriving Inhabited
def shFields (P : Program) (r : TypeId → Option (List Sh)) : Nat → List Field → Option (List Sh)
  | _, [] => some []
  | off, f :: fs => match r f.type with
    | some ss => match Nat.beq f.offset off && Nat.beq (P.cellsOf f.type) ss.length with
      | true => match shFields P r (off + ss.length) fs with
        | some rs => some (ss ++ rs)
        | none => none
      | false => none
    | none => none
def shOf (P : Program) : Nat → TypeId → Option (List Sh)
  | 0, _ => none
  | n + 1, t => match P.underlying t with
    | some .bool => some [.bool]
    | some (.int k) => some [.int k]
    | some (.float k) => some [.flt k]
    | some .string => some [.str]
    | some (.slice e) => match shOf P n e with
      | some es => match es with | [] => none | s :: es => (match Nat.beq (P.cellsOf e) (es.length + 1) with | true => some [.slice (s :: es)] | false => none)
      | none => none
    | some (.struct fs) => match shFields P (shOf P n) 0 fs.toList with
      | some ss => match Nat.beq (P.cellsOf t) ss.length with | true => some ss | false => none
      | none => none
    | _ => none
inductive Ok : Sh → PV → Prop
  | bool (b : Bool) : Ok .bool (.bool b)
  | int (k : IntKind) (n : Int) (h : (Lit.int k n).wf = true) : Ok (.int k) (.int k n)
  | flt (k : FloatKind) (b : Nat) (h : (Lit.float k b).wf = true) : Ok (.flt k) (.flt k b)
  | str (s : ByteArray) (h : s.size ≤ maxLen) : Ok .str (.str s)
  | nils (es : List Sh) : Ok (.slice es) .nils
  | fz (es : List Sh) (rows : List (List PV)) (hl : rows.length ≤ maxLen) (hs : ∀ r ∈ rows, r.length = es.length) (h : ∀ r ∈ rows, ∀ (i : Nat) (s : Sh) (p : PV), es[i]? = some s → r[i]? = some p → Ok s p) : Ok (.slice es) (.fz rows)
def OkRow (ss : List Sh) (ps : List PV) : Prop := ps.length = ss.length ∧ ∀ (i : Nat) (s : Sh) (p : PV), ss[i]? = some s → ps[i]? = some p → Ok s p
theorem OkRow.one {s : Sh} {p : PV} (h : Ok s p) : OkRow [s] [p] := ⟨rfl, fun i s' p' h1 h2 => by cases i with | zero => simp at h1 h2; subst h1; subst h2; exact h | succ i => simp at h1⟩
theorem OkRow.append {ss rs : List Sh} {ps qs : List PV} (h : OkRow ss ps) (h2 : OkRow rs qs) : OkRow (ss ++ rs) (ps ++ qs) := by
  refine ⟨by simp [h.1, h2.1], fun i s p k1 k2 => ?_⟩
  rcases Nat.lt_or_ge i ss.length with hi | hi
  · rw [List.getElem?_append_left hi] at k1
    rw [List.getElem?_append_left (by rw [h.1]; exact hi)] at k2
    exact h.2 i s p k1 k2
  · rw [List.getElem?_append_right hi] at k1
    rw [List.getElem?_append_right (by rw [h.1]; exact hi), h.1] at k2
    exact h2.2 _ s p k1 k2
theorem mapM_some {α β : Type} {f : α → Option β} : ∀ {l : List α} {r : List β}, l.mapM f = some r → r.length = l.length ∧ ∀ (i : Nat) (x : α), l[i]? = some x → ∃ y, r[i]? = some y ∧ f x = some y
  | [], r, h => by
    simp at h; subst h; simp
  | x :: l, r, h => by
    rw [List.mapM_cons] at h
    cases hx : f x with
    | none => simp [hx] at h
    | some y =>
      cases hl : l.mapM f with
      | none => simp [hx, hl] at h
      | some ys =>
        simp [hx, hl] at h
        subst h
        obtain ⟨h1, h2⟩ := mapM_some hl
        refine ⟨by simp [h1], fun i z hz => ?_⟩
        cases i with
        | zero => simp at hz; subst hz; exact ⟨y, rfl, hx⟩
        | succ i => exact h2 i z (by simpa using hz)
theorem cells_at {w : World} {base : Nat} {a : Addr} {n : Nat} {cs : List Value} (h : w.cells? base a n = some cs) : cs.length = n ∧ ∀ j, j < n → ∃ v, cs[j]? = some v ∧ w.cell? (a.add j) = some v := by
  unfold World.cells? at h
  split at h
  · obtain ⟨h1, h2⟩ := mapM_some h
    refine ⟨by simpa using h1, fun j hj => ?_⟩
    obtain ⟨y, k1, k2⟩ := h2 j j (by simp [hj])
    exact ⟨y, k1, k2⟩
  · cases h
theorem cell_spot {w : World} {a : Addr} {v : Value} (h : w.cell? a = some v) : a.spot = none ∧ a.block < w.heap.size := by
  unfold World.cell? at h
  split at h
  · rename_i c t f hh
    split at h
    · cases h
    · rename_i hs
      exact ⟨by simpa using hs, (Array.getElem?_eq_some_iff.1 hh).1⟩
  · cases h
theorem add_at (a : Addr) (n : Nat) (h : a.spot = none) : a.add n = ⟨a.block, a.off + n, none⟩ := by
  obtain ⟨b, o, s⟩ := a
  simp only at h
  subst h
  exact add_none b o n
section
variable {H : Type} {enc : TypeId × Value → H} {P : Program} {w : World} {base : Nat} {spare : Nat → Bool} {held : Bool}
def Read (w : World) (ss : List Sh) (cs : List Value) : Prop := ∃ ps, OkRow ss ps ∧ All2 (RelF w (Old w)) ps cs ∧ ∀ v ∈ cs, v.oneCell' = true
theorem Read.one {s : Sh} {p : PV} {v : Value} (h : Ok s p) (hr : RelF w (Old w) p v) (h1 : v.oneCell' = true) : Read w [s] [v] := ⟨[p], OkRow.one h, All2.cons hr All2.nil, by simpa using h1⟩
theorem All2.append' {α β : Type} {R : α → β → Prop} {as cs : List α} {bs ds : List β} (h : bs.length = as.length ∧ ∀ (i : Nat) (p : α) (v : β), as[i]? = some p → bs[i]? = some v → R p v) (h2 : ds.length = cs.length ∧ ∀ (i : Nat) (p : α) (v : β), cs[i]? = some p → ds[i]? = some v → R p v) :
    (bs ++ ds).length = (as ++ cs).length ∧ ∀ (i : Nat) (p : α) (v : β), (as ++ cs)[i]? = some p → (bs ++ ds)[i]? = some v → R p v := by
  refine ⟨by simp [h.1, h2.1], fun i p v k1 k2 => ?_⟩
  rcases Nat.lt_or_ge i as.length with hi | hi
  · rw [List.getElem?_append_left hi] at k1
    rw [List.getElem?_append_left (by rw [h.1]; exact hi)] at k2
    exact h.2 i p v k1 k2
  · rw [List.getElem?_append_right hi] at k1
    rw [List.getElem?_append_right (by rw [h.1]; exact hi), h.1] at k2
    exact h2.2 _ p v k1 k2
theorem Read.append {ss rs : List Sh} {cs ds : List Value} (h : Read w ss cs) (h2 : Read w rs ds) : Read w (ss ++ rs) (cs ++ ds) := by
  obtain ⟨ps, a1, a2, a3⟩ := h
  obtain ⟨qs, b1, b2, b3⟩ := h2
  refine ⟨ps ++ qs, a1.append b1, All2.append' a2 b2, fun v hv => ?_⟩
  rcases List.mem_append.1 hv with hv | hv
  · exact a3 v hv
  · exact b3 v hv
theorem Read.len {ss : List Sh} {cs : List Value} (h : Read w ss cs) : cs.length = ss.length := by
  obtain ⟨ps, a1, a2, _⟩ := h
  rw [a2.1, a1.1]
theorem fields_read {fuel : Nat} (ih : ∀ (n : Nat) (t : TypeId) (cs : List Value) (y : DataW H × List MemPlace) (ss : List Sh), DataW.trod enc P w base spare held fuel t cs = some y → shOf P n t = some ss → Read w ss cs) (cs : List Value) :
    ∀ (n : Nat) (fs : List Field) (off : Nat) (ss : List Sh), shFields P (shOf P n) off fs = some ss → (∀ (i : Nat) (f : Field), fs[i]? = some f → ∃ y, DataW.trod enc P w base spare held fuel f.type ((cs.drop f.offset).take (P.cellsOf f.type)) = some y) → Read w ss ((cs.drop off).take ss.length)
  | n, [], off, ss, h, _ => by
    simp only [shFields, Option.some.injEq] at h; subst h; exact ⟨[], ⟨rfl, by simp⟩, by simpa using All2.nil, by simp⟩
  | n, f :: fs, off, ss, h, hf => by
    simp only [shFields] at h
    split at h
    · rename_i s1 h1
      split at h
      · rename_i hb
        simp only [Bool.and_eq_true] at hb
        have e1 := Nat.eq_of_beq_eq_true hb.1
        have e2 := Nat.eq_of_beq_eq_true hb.2
        split at h
        · rename_i rs h2
          injection h with h
          subst h
          obtain ⟨y, hy⟩ := hf 0 f rfl
          have r1 := ih n _ _ y s1 hy h1
          rw [e1, e2] at r1
          have r2 := fields_read ih cs n fs (off + s1.length) rs h2 fun i g hg => hf (i + 1) g (by simpa using hg)
          have := r1.append r2
          rw [List.length_append, List.take_add, List.drop_drop]
          exact this
        · cases h
      · cases h
    · cases h
theorem trod_read : ∀ (fuel n : Nat) (t : TypeId) (cs : List Value) (y : DataW H × List MemPlace) (ss : List Sh), DataW.trod enc P w base spare held fuel t cs = some y → shOf P n t = some ss → Read w ss cs
  | 0, n, t, cs, y, ss, h, _ => by simp [DataW.trod] at h
  | fuel + 1, 0, t, cs, y, ss, h, hs => by simp [shOf] at hs
  | fuel + 1, n + 1, t, cs, y, ss, h, hs => by
    simp only [shOf] at hs
    split at hs
    · rename_i hu
      injection hs with hs; subst hs
      unfold DataW.trod at h
      rw [hu] at h
      split at h <;> try (simp_all; done)
      rename_i b _
      exact Read.one (.bool b) (.bool b) rfl
    · rename_i k hu
      injection hs with hs; subst hs
      unfold DataW.trod at h
      rw [hu] at h
      split at h <;> try (simp_all; done)
      rename_i k2 k1 m e1
      injection e1 with e1; injection e1 with e1; subst e1
      split at h
      · rename_i hc
        obtain ⟨rfl, hw⟩ := hc
        exact Read.one (.int _ m hw) (.int _ m) rfl
      · cases h
    · rename_i k hu
      injection hs with hs; subst hs
      unfold DataW.trod at h
      rw [hu] at h
      split at h <;> try (simp_all; done)
      rename_i k2 k1 m e1
      injection e1 with e1; injection e1 with e1; subst e1
      split at h
      · rename_i hc
        obtain ⟨rfl, hw⟩ := hc
        exact Read.one (.flt _ m hw) (.flt _ m) rfl
      · cases h
    · rename_i hu
      injection hs with hs; subst hs
      unfold DataW.trod at h
      rw [hu] at h
      split at h <;> try (simp_all; done)
      rename_i s _
      split at h
      · rename_i hc
        exact Read.one (.str s hc) (.str s) rfl
      · cases h
    · rename_i e hu
      split at hs
      · rename_i es he
        split at hs
        · cases hs
        · rename_i s0 es'
          split at hs
          · rename_i hk
            have hk := Nat.eq_of_beq_eq_true hk
            injection hs with hs; subst hs
            unfold DataW.trod at h
            rw [hu] at h
            split at h <;> try (simp_all; done)
            · exact Read.one (.nils _) .nils rfl
            · rename_i e1 a len cap e2
              injection e2 with e2; injection e2 with e2; subst e2
              simp only at h
              split at h
              · rename_i hc
                obtain ⟨_, hlc, hcm⟩ := hc
                cases hm : (List.range len).mapM fun i => (w.cells? base (a.add (i * P.cellsOf e)) (P.cellsOf e)).bind (DataW.trod enc P w base spare held fuel e) with
                | none => rw [hm] at h; simp at h
                | some elems =>
                  obtain ⟨_, hel⟩ := mapM_some hm
                  have hrow : ∀ i, i < len → ∃ row ps, w.cells? base (a.add (i * P.cellsOf e)) (P.cellsOf e) = some row ∧ OkRow (s0 :: es') ps ∧ All2 (RelF w (Old w)) ps row ∧ ∀ v ∈ row, v.oneCell' = true := by
                    intro i hi
                    obtain ⟨y', _, k2⟩ := hel i i (by simp [hi])
                    cases hr : w.cells? base (a.add (i * P.cellsOf e)) (P.cellsOf e) with
                    | none => simp [hr] at k2
                    | some row =>
                      simp only [hr, Option.bind_some] at k2
                      obtain ⟨ps, q1, q2, q3⟩ := trod_read fuel n e row y' (s0 :: es') k2 he
                      exact ⟨row, ps, rfl, q1, q2, q3⟩
                  by_cases h0 : len = 0
                  · subst h0
                    exact Read.one (.fz _ [] (Nat.zero_le _) (by simp) (by simp)) (.fzNil _ _) rfl
                  · let ch : Nat → List PV := fun i => if hi : i < len then (hrow i hi).choose_spec.choose else []
                    let rw' : Nat → List Value := fun i => if hi : i < len then (hrow i hi).choose else []
                    have hch : ∀ i, i < len → w.cells? base (a.add (i * P.cellsOf e)) (P.cellsOf e) = some (rw' i) ∧ OkRow (s0 :: es') (ch i) ∧ All2 (RelF w (Old w)) (ch i) (rw' i) ∧ ∀ v ∈ rw' i, v.oneCell' = true := by
                      intro i hi
                      have := (hrow i hi).choose_spec.choose_spec
                      simp only [ch, rw', hi, dif_pos]
                      exact this
                    have hat : ∀ (i : Nat) (r : List PV), ((List.range len).map ch)[i]? = some r → i < len ∧ r = ch i := by
                      intro i r hi
                      have hl : i < len := by have := (List.getElem?_eq_some_iff.1 hi).1; simpa using this
                      rw [List.getElem?_map, List.getElem?_range hl] at hi
                      simp at hi
                      exact ⟨hl, hi.symm⟩
                    have hkpos : 0 < P.cellsOf e := by omega
                    have hspot : a.spot = none ∧ a.block < w.heap.size := by
                      obtain ⟨k1, _⟩ := hch 0 (by omega)
                      obtain ⟨_, k2⟩ := cells_at k1
                      obtain ⟨v, _, k3⟩ := k2 0 hkpos
                      rw [show (a.add (0 * P.cellsOf e)).add 0 = a by simp [Addr.add]] at k3
                      exact cell_spot k3
                    have hval : ∀ (i : Nat) (r : List PV) (j : Nat) (p : PV), ((List.range len).map ch)[i]? = some r → r[j]? = some p → ∃ v, (rw' i)[j]? = some v ∧ w.cell? ⟨a.block, a.off + i * P.cellsOf e + j, none⟩ = some v ∧ v.oneCell' = true ∧ RelF w (Old w) p v := by
                      intro i r j p hi hj
                      obtain ⟨hl, rfl⟩ := hat i r hi
                      obtain ⟨k1, k2, k3, k4⟩ := hch i hl
                      obtain ⟨l1, l2⟩ := cells_at k1
                      have hjl : j < P.cellsOf e := by
                        have := (List.getElem?_eq_some_iff.1 hj).1
                        have h5 := k3.1
                        omega
                      obtain ⟨v, m1, m2⟩ := l2 j hjl
                      have m2' : w.cell? ⟨a.block, a.off + i * P.cellsOf e + j, none⟩ = some v := by
                        rw [add_at a _ hspot.1, add_at _ _ rfl] at m2
                        exact m2
                      exact ⟨v, m1, m2', k4 v (List.mem_of_getElem? m1), k3.2 j p v hj m1⟩
                    have hfz := RelF.fz (w := w) (F := Old w) ((List.range len).map ch) a.block a.off (P.cellsOf e) cap (fun i j => ((rw' i)[j]?).getD undef) hspot.2
                      (fun i r hi => by
                        obtain ⟨hl, rfl⟩ := hat i r hi
                        have := (hch i hl).2.1.1
                        simp only [List.length_cons] at this
                        omega) (by simpa using hlc)
                      (fun i r j p hi hj => by obtain ⟨v, q1, q2, q3, q4⟩ := hval i r j p hi hj; rw [q1]; exact q3)
                      (fun i r j p hi hj => by obtain ⟨v, q1, q2, q3, q4⟩ := hval i r j p hi hj; rw [q1]; exact q2)
                      (fun i r j p hi hj => by obtain ⟨v, q1, q2, q3, q4⟩ := hval i r j p hi hj; rw [q1]; exact q4)
                    rw [show ((List.range len).map ch).length = len by simp] at hfz
                    have ha : a = ⟨a.block, a.off, none⟩ := by obtain ⟨b, o, s⟩ := a; simp only at hspot; rw [hspot.1]
                    rw [← ha] at hfz
                    refine Read.one (.fz _ _ (by simp; omega) (fun r hr => ?_) fun r hr => ?_) hfz rfl
                    · obtain ⟨i, hi⟩ := List.getElem?_of_mem hr
                      obtain ⟨hl, rfl⟩ := hat i r hi
                      exact (hch i hl).2.1.1
                    · obtain ⟨i, hi⟩ := List.getElem?_of_mem hr
                      obtain ⟨hl, rfl⟩ := hat i r hi
                      exact (hch i hl).2.1.2
              · cases h
          · cases hs
      · cases hs
    · rename_i fs hu
      split at hs
      · rename_i ss' hf
        split at hs
        · rename_i hb
          have hb := Nat.eq_of_beq_eq_true hb
          injection hs with hs; subst hs
          unfold DataW.trod at h
          rw [hu] at h
          split at h <;> try (simp_all; done)
          rename_i cs _ _ fs' e1
          injection e1 with e1; injection e1 with e1; subst e1
          split at h
          · rename_i hlen
            cases hm : fs.toList.mapM fun f => DataW.trod enc P w base spare held fuel f.type ((cs.drop f.offset).take (P.cellsOf f.type)) with
            | none => rw [hm] at h; simp at h
            | some xs =>
              obtain ⟨_, hx⟩ := mapM_some hm
              have := fields_read (fun n t cs y ss => trod_read fuel n t cs y ss) cs n fs.toList 0 ss' hf fun i f hif => by
                obtain ⟨y, _, h2⟩ := hx i f hif
                exact ⟨y, h2⟩
              rw [List.drop_zero, List.take_of_length_le (by omega)] at this
              exact this
          · cases h
        · cases hs
      · cases hs
    · cases hs
end
end
end Go.Av
end
section
namespace Go.Av
open Go Go.ChangeShapes Go.WideShapes Go.ChangeAt Go.RowKit
section
def Shaped (P : Program) (t : TypeId) : Prop := ∃ n ss, shOf P n t = some ss
theorem shFields_spec {P : Program} : ∀ (n : Nat) (fs : List Field) (off : Nat) (ss : List Sh), shFields P (shOf P n) off fs = some ss → (∀ f ∈ fs, Shaped P f.type) ∧ ss.length = (fs.map fun f => P.cellsOf f.type).sum ∧ ∀ (j : Nat) (f : Field), fs[j]? = some f → f.offset = off + ((fs.take j).map fun f => P.cellsOf f.type).sum
  | n, [], off, ss, h => by
    simp only [shFields, Option.some.injEq] at h; subst h; simp
  | n, f :: fs, off, ss, h => by
    simp only [shFields] at h
    split at h
    · rename_i s1 h1
      split at h
      · rename_i hb
        simp only [Bool.and_eq_true] at hb
        have e1 := Nat.eq_of_beq_eq_true hb.1
        have e2 := Nat.eq_of_beq_eq_true hb.2
        split at h
        · rename_i rs h2
          injection h with h
          subst h
          obtain ⟨k1, k2, k3⟩ := shFields_spec n fs _ rs h2
          refine ⟨fun g hg => ?_, by simp [k2, e2], fun j g hj => ?_⟩
          · cases hg with
            | head => exact ⟨n, s1, h1⟩
            | tail _ hg => exact k1 g hg
          · cases j with
            | zero => simp at hj; subst hj; simpa using e1
            | succ j =>
              have := k3 j g (by simpa using hj)
              simp only [List.take_succ_cons, List.map_cons, List.sum_cons]
              omega
        · cases h
      · cases h
    · cases h
theorem shaped_slice {P : Program} {t e : TypeId} (h : Shaped P t) (hu : P.underlying t = some (.slice e)) : Shaped P e ∧ 0 < P.cellsOf e := by
  obtain ⟨n, ss, h⟩ := h
  cases n with
  | zero => simp [shOf] at h
  | succ n =>
    simp only [shOf, hu] at h
    split at h
    · rename_i es he
      split at h
      · cases h
      · split at h
        · rename_i hk
          have := Nat.eq_of_beq_eq_true hk
          exact ⟨⟨n, _, he⟩, by omega⟩
        · cases h
    · cases h
theorem shaped_kids (P : Program) : Kids P (Shaped P) := by
  refine ⟨fun {t e} ⟨n, ss, h⟩ hu => ?_, fun h hu => (shaped_slice h hu).1, fun {t e m} ⟨n, ss, h⟩ hu => ?_, fun {t fs} ⟨n, ss, h⟩ hu => ?_, fun {t k e} ⟨n, ss, h⟩ hu => ?_⟩
  · cases n <;> simp [shOf, hu] at h
  · cases n <;> simp [shOf, hu] at h
  · cases n with
    | zero => simp [shOf] at h
    | succ n =>
      simp only [shOf, hu] at h
      split at h
      · rename_i ss' hf
        split at h
        · rename_i hb
          have := Nat.eq_of_beq_eq_true hb
          obtain ⟨k1, k2, k3⟩ := shFields_spec n _ _ _ hf
          exact ⟨k1, this.trans k2, fun j f hj => by simpa using k3 j f hj⟩
        · cases h
      · cases h
  · cases n <;> simp [shOf, hu] at h
section
variable {H : Type} {enc : TypeId × Value → H} {P : Program} {W W' : World}
theorem same_at (hg : ∀ b, b < W.heap.size → W'.heap[b]? = W.heap[b]?) {p : MemPlace} (hp : p.block < W.heap.size) : W.sameAt W' p := by
  cases p with
  | cell b off =>
    have h : W'.heap[b]? = W.heap[b]? := hg b hp
    show W'.cell? ⟨b, off, none⟩ = W.cell? ⟨b, off, none⟩
    simp only [World.cell?, h]
  | map b => exact hg b hp
theorem again {t : TypeId} (hs : Shaped P t) {v : Value} {d : DataW H} {ps : List MemPlace} (h : DataW.Trod enc P W 0 (fun _ => true) true t v d ps) (hg : ∀ b, b < W.heap.size → W'.heap[b]? = W.heap[b]?) {sp : Nat → Bool} (hsp : ∀ p ∈ ps, sp p.block = true) : DataW.Trod enc P W' 0 sp true t v d ps := by
  obtain ⟨fuel, h⟩ := h
  exact ⟨fuel, DataW.trod_stays (shaped_kids P) (fun h hu => (shaped_slice h hu).2) (fun h => by cases h) hs h (fun p hp => same_at hg (DataW.trod_lt fuel _ _ _ h p hp)) hsp⟩
theorem allAgain : ∀ {ts : List TypeId} {vs : List Value} {ds : List (DataW H)} {ps : List MemPlace}, (∀ t ∈ ts, Shaped P t) → DataW.TrodAll enc P W 0 (fun _ => true) true ts vs ds ps → (∀ b, b < W.heap.size → W'.heap[b]? = W.heap[b]?) → ∀ {sp : Nat → Bool}, (∀ p ∈ ps, sp p.block = true) → DataW.TrodAll enc P W' 0 sp true ts vs ds ps
  | [], [], [], ps, _, h, _, _, _ => h
  | t :: ts, v :: vs, d :: ds, ps, hs, h, hg, sp, hsp => by
    obtain ⟨p, q, h1, h2, rfl⟩ := h
    exact ⟨p, q, again (hs t List.mem_cons_self) h1 hg fun x hx => hsp x (List.mem_append_left _ hx), allAgain (fun t ht => hs t (List.mem_cons_of_mem _ ht)) h2 hg fun x hx => hsp x (List.mem_append_right _ hx), rfl⟩
  | [], _ :: _, _, _, _, h, _, _, _ => h.elim
  | [], [], _ :: _, _, _, h, _, _, _ => h.elim
  | _ :: _, [], _, _, _, h, _, _, _ => h.elim
  | _ :: _, _ :: _, [], _, _, h, _, _, _ => h.elim
theorem read_value {t : TypeId} {n : Nat} {ss : List Sh} (hs : shOf P n t = some ss) {v : Value} {cs : Array Value} (hv : v = .agg cs) {d : DataW H} {ps : List MemPlace} (h : DataW.Trod enc P W 0 (fun _ => true) true t v d ps) : ∃ qs, OkRow ss qs ∧ RelF W (Old W) (.agg qs) v := by
  subst hv
  obtain ⟨fuel, h⟩ := h
  obtain ⟨qs, h1, h2, h3⟩ := trod_read fuel n t _ _ ss h hs
  exact ⟨qs, h1, by
    have := RelF.agg (w := W) (F := Old W) qs cs.toList h2.1 (fun v hv => h3 v (by simpa [Value.cells] using hv)) h2.2
    simpa using this⟩
end
end
end Go.Av
end
section
namespace Go.Av
open Go
section
section
variable (d : Nat) (H : Heap)
theorem frz_int (k : IntKind) (n : Int) : frz (d + 1) H (.int k n) = .int k n := rfl
theorem frz_bool (b : Bool) : frz (d + 1) H (.bool b) = .bool b := rfl
theorem frz_str (s : ByteArray) : frz (d + 1) H (.str s) = .str s := rfl
theorem frz_flt (k : FloatKind) (n : Nat) : frz (d + 1) H (.flt k n) = .flt k n := rfl
theorem frz_fz (rows : List (List PV)) : frz (d + 1) H (.fz rows) = .fz rows := rfl
theorem frz_fp (cs : List PV) (o : Nat) : frz (d + 1) H (.fp cs o) = .fp cs o := rfl
theorem frz_nils : frz (d + 1) H .nils = .nils := rfl
theorem frz_nilf : frz (d + 1) H .nilf = .nilf := rfl
theorem frz_nilm : frz (d + 1) H .nilm = .nilm := rfl
theorem frz_agg (cs : List PV) : frz (d + 1) H (.agg cs) = .agg (cs.map (frz d H)) := rfl
theorem frz_tup (cs : List PV) : frz (d + 1) H (.tup cs) = .tup (cs.map (frz d H)) := rfl
theorem frz_fn (f : Nat) (cs : List PV) : frz (d + 1) H (.fn f cs) = .fn f (cs.map (frz d H)) := rfl
end
theorem results_nil (st : St) : Go.Av.results st [] = some [] := rfl
theorem results_cons (st : St) (r : ARes) (rs : List ARes) : Go.Av.results st (r :: rs) = match r.get st, Go.Av.results st rs with | some v, some vs => some (v :: vs) | _, _ => none := rfl
end
section
inductive BOp where
  | op (o : AOper)
  | kill (ks : List Nat)
  deriving Inhabited
def opsOf : List BOp → List AOper
  | [] => []
  | .op o :: bs => o :: opsOf bs
  | .kill _ :: bs => opsOf bs
def regOf : Opd → List Nat
  | .reg n => [n]
  | _ => []
def readsOf (o : AOper) : List Opd := opdsOf o.op ++ (match o.guard with | none => [] | some (g, _) => [g]) ++ o.clear
def regsOf (o : AOper) : List Nat := ((readsOf o).map regOf).flatten
def usedIn : List BOp → Nat → Bool
  | [], _ => false
  | .op o :: bs, k => (regsOf o).any (Nat.beq k) || usedIn bs k
  | .kill _ :: bs, k => usedIn bs k
def killOk : List BOp → Bool
  | [] => true
  | .op _ :: bs => killOk bs
  | .kill ks :: bs => (ks.all fun k => !usedIn bs k) && killOk bs
section
variable {G : Nat → Option (List PV)} {C : Cl}
def runBOf (G : Nat → Option (List PV)) (C : Cl) : List BOp → St → Option St
  | [], st => some st
  | .op o :: os, st => match wanted G st o with
    | some true => match evOper G C st o with
      | some (v, H, ed) => runBOf G C os (St.put { st with H := H, ed := ed ++ st.ed } o.dst v)
      | none => none
    | some false => runBOf G C os (st.put o.dst .und)
    | none => none
  | .kill ks :: os, st => runBOf G C os { st with reg := ks.foldl Env.erase st.reg }
theorem get_erase_ne (e : Env) (k n : Nat) (h : Nat.beq n k = false) : (e.erase k).get n = e.get n := by
  induction e with
  | nil => rfl
  | cons p e ih =>
    obtain ⟨a, x⟩ := p
    rw [Env.erase]
    cases hb : Nat.beq a k with
    | true =>
      have : a = k := Nat.eq_of_beq_eq_true hb
      subst this
      show (Env.erase e a).get n = _
      rw [ih, Env.get]
      have h2 : Nat.beq a n = false := by
        cases h3 : Nat.beq a n with
        | false => rfl
        | true => rw [← Nat.eq_of_beq_eq_true h3] at h; rw [Nat.beq_refl] at h; cases h
      rw [h2]
    | false =>
      show Env.get ((a, x) :: Env.erase e k) n = _
      rw [Env.get, Env.get, ih]
theorem get_erases (ks : List Nat) : ∀ (e : Env) (n : Nat), (∀ k ∈ ks, Nat.beq n k = false) → Env.get (ks.foldl Env.erase e) n = e.get n := by
  induction ks with
  | nil => intro e n _; rfl
  | cons k ks ih =>
    intro e n h
    rw [List.foldl_cons, ih _ _ (fun k hk => h k (List.mem_cons_of_mem _ hk)), get_erase_ne _ _ _ (h k (List.mem_cons_self ..))]
def Alike (u : Nat → Bool) (s s' : St) : Prop := s.per = s'.per ∧ s.H = s'.H ∧ s.ed = s'.ed ∧ ∀ k, u k = true → s.reg.get k = s'.reg.get k
theorem alike_get {u : Nat → Bool} {s s' : St} (h : Alike u s s') (x : Opd) (hx : ∀ k ∈ regOf x, u k = true) : x.get G s = x.get G s' := by
  cases x with
  | per n => show s.per.get n = s'.per.get n; rw [h.1]
  | reg n => exact h.2.2.2 n (hx n (by simp [regOf]))
  | const v => rfl
  | glob g => rfl
theorem alike_put {u u' : Nat → Bool} {s s' : St} (h : Alike u s s') (hu : ∀ k, u' k = true → u k = true) (d : Option (Bool × Nat)) (v : PV) (H : Heap) (ed : Edges) : Alike u' (St.put { s with H := H, ed := ed } d v) (St.put { s' with H := H, ed := ed } d v) := by
  match d with
  | none => exact ⟨h.1, rfl, rfl, fun k hk => h.2.2.2 k (hu k hk)⟩
  | some (true, n) => exact ⟨by show s.per.put n v = s'.per.put n v; rw [h.1], rfl, rfl, fun k hk => h.2.2.2 k (hu k hk)⟩
  | some (false, n) => exact ⟨h.1, rfl, rfl, fun k hk => by show (s.reg.put n v).get k = (s'.reg.put n v).get k; rw [Env.get_put, Env.get_put, h.2.2.2 k (hu k hk)]⟩
theorem same_regK {s s' : St} (h1 : s.per = s'.per) (h2 : s.H = s'.H) (h3 : s.ed = s'.ed) : ({ s with reg := [] } : St) = { s' with reg := [] } := by
  cases s; cases s'; simp at h1 h2 h3; simp [h1, h2, h3]
theorem runB_same : ∀ (bs : List BOp) (s s' : St), killOk bs = true → Alike (usedIn bs) s s' →
    (evOps G C (opsOf bs) s).map (fun s => ({ s with reg := [] } : St)) = (runBOf G C bs s').map (fun s => ({ s with reg := [] } : St)) := by
  intro bs
  induction bs with
  | nil => intro s s' _ h; simp only [opsOf, evOps, runBOf, Option.map_some]; rw [same_regK h.1 h.2.1 h.2.2.1]
  | cons b bs ih =>
    intro s s' hk h
    cases b with
    | kill ks =>
      rw [killOk, Bool.and_eq_true] at hk
      rw [opsOf, runBOf]
      refine ih _ _ hk.2 ⟨h.1, h.2.1, h.2.2.1, fun k hu => ?_⟩
      show s.reg.get k = Env.get (ks.foldl Env.erase s'.reg) k
      rw [get_erases, h.2.2.2 k hu]
      intro j hj
      have := (List.all_eq_true.1 hk.1) j hj
      cases hb : Nat.beq k j with
      | false => rfl
      | true => rw [← Nat.eq_of_beq_eq_true hb, hu] at this; cases this
    | op o =>
      rw [killOk] at hk
      have hr : ∀ x ∈ readsOf o, x.get G s = x.get G s' := fun x hx => alike_get h x fun k hkx => by
        rw [usedIn, Bool.or_eq_true]
        refine .inl (List.any_eq_true.2 ⟨k, ?_, Nat.beq_refl k⟩)
        exact List.mem_flatten.2 ⟨_, List.mem_map.2 ⟨x, hx, rfl⟩, hkx⟩
      have hu : ∀ k, usedIn bs k = true → usedIn (.op o :: bs) k = true := fun k hk => by rw [usedIn, hk, Bool.or_true]
      have hw : wanted G s o = wanted G s' o := by
        rw [wanted, wanted]
        cases hg : o.guard with
        | none => rfl
        | some g =>
          obtain ⟨g, w⟩ := g
          have := hr g (by simp [readsOf, hg])
          simp only [this]
      have ho : ∀ x ∈ opdsOf o.op, x.get G s = x.get G s' := fun x hx => hr x (by simp [readsOf, hx])
      have hv : evOp G C s o.op = evOp G C s' o.op := evOp_congr ho h.2.1
      have hn : okNow G s o = okNow G s' o := by
        have h1 : ((opdsOf o.op).all fun x => (refs (x.get G s)).isEmpty) = (opdsOf o.op).all fun x => (refs (x.get G s')).isEmpty := by
          rw [Bool.eq_iff_iff, List.all_eq_true, List.all_eq_true]
          exact ⟨fun q x hx => by rw [← ho x hx]; exact q x hx, fun q x hx => by rw [ho x hx]; exact q x hx⟩
        have h2 : (o.clear.all fun x => clearOf (target G s o.op) (x.get G s)) = o.clear.all fun x => clearOf (target G s' o.op) (x.get G s') := by
          rw [target_congr ho, Bool.eq_iff_iff, List.all_eq_true, List.all_eq_true]
          exact ⟨fun q x hx => by rw [← hr x (by simp [readsOf, hx])]; exact q x hx, fun q x hx => by rw [hr x (by simp [readsOf, hx])]; exact q x hx⟩
        rw [okNow, okNow, h1, h2]
      have he : evOper G C s o = evOper G C s' o := by rw [evOper.eq_def, evOper.eq_def, hv, hn]
      rw [opsOf, evOps, runBOf, hw, he]
      cases wanted G s' o with
      | none => rfl
      | some b =>
        cases b with
        | true =>
          cases evOper G C s' o with
          | none => rfl
          | some r =>
            obtain ⟨v, H, ed⟩ := r
            dsimp only
            rw [h.2.2.1]
            exact ih _ _ hk (alike_put h hu o.dst v H _)
        | false =>
          dsimp only
          have e1 : s.put o.dst .und = St.put { s with H := s'.H, ed := s'.ed } o.dst .und := by rw [← h.2.1, ← h.2.2.1]
          have := alike_put h hu o.dst .und s'.H s'.ed
          rw [← e1] at this
          exact ih _ _ hk this
theorem alike_refl (u : Nat → Bool) (s : St) : Alike u s s := ⟨rfl, rfl, rfl, fun _ _ => rfl⟩
end
noncomputable def runB (P : AProg) : List BOp → St → Option St := runBOf P.glob (CL P)
end
section
section
variable (P : AProg)
noncomputable def seqK : Option (AExit × St) → AC → Option (AExit × St)
  | some (.normal, st), b => EV P b st
  | r, _ => r
def blkK : Option (AExit × St) → Nat → Option (AExit × St)
  | some (.exit id', st), id => match Nat.beq id' id with | true => some (.normal, st) | false => some (.exit id', st)
  | r, _ => r
noncomputable def condK : PV → Bool → Opd → St → AC → AC → Option (AExit × St)
  | .bool t, g, c, st, a, b => if t = true then EV P a (goneIn g c st) else EV P b (goneIn g c st)
  | _, _, _, _, _, _ => none
def regK : Option St → Option (AExit × St)
  | some st => some (.normal, { st with reg := [] })
  | none => none
noncomputable def opsK : Option St → List BOp → Option St
  | some st, os => runB P os st
  | none, _ => none
def putK (st : St) (d : Option (Bool × Nat)) : Option (PV × Heap × Edges) → Option St
  | some (v, H, ed) => some (St.put { st with H := H, ed := ed ++ st.ed } d v)
  | none => none
def wantK : PV → Bool → Option Bool
  | .bool b, w => some (b == w)
  | .und, _ => some false
  | _, _ => none
noncomputable def grdK : Option Bool → St → AOper → Option St
  | some b, st, o => if b = true then putK st o.dst (evOper P.glob (CL P) st o) else some (st.put o.dst .und)
  | none, _, _ => none
variable {P}
@[congr] theorem seqK_congr {r r' : Option (AExit × St)} {b : AC} (h : r = r') : seqK P r b = seqK P r' b := by rw [h]
@[congr] theorem blkK_congr {r r' : Option (AExit × St)} {b : Nat} (h : r = r') : blkK r b = blkK r' b := by rw [h]
@[congr] theorem opsK_congr {r r' : Option St} {b : List BOp} (h : r = r') : opsK P r b = opsK P r' b := by rw [h]
@[congr] theorem condK_congr {v v' : PV} {g : Bool} {c : Opd} {st : St} {a b : AC} (h : v = v') : condK P v g c st a b = condK P v' g c st a b := by rw [h]
@[congr] theorem X_EV_congr {c : AC} {st st' : St} (h : st = st') : EV P c st = EV P c st' := by rw [h]
@[congr] theorem X_runB_congr {os : List BOp} {st st' : St} (h : st = st') : runB P os st = runB P os st' := by rw [h]
@[congr] theorem X_evOper_congr {o : AOper} {st st' : St} (h : st = st') : evOper P.glob (CL P) st o = evOper P.glob (CL P) st' o := by rw [h]
@[congr] theorem X_evOp_congr {o : AOp} {st st' : St} (h : st = st') : evOp P.glob (CL P) st o = evOp P.glob (CL P) st' o := by rw [h]
@[congr] theorem grdK_congr {r r' : Option Bool} {st : St} {o : AOper} (h : r = r') : grdK P r st o = grdK P r' st o := by rw [h]
theorem XV_seq (a b : AC) (st : St) : EV P (.seq a b) st = seqK P (EV P a st) b := by
  rw [EV_seq]; cases EV P a st with
  | none => rfl
  | some r => obtain ⟨e, s⟩ := r; cases e <;> rfl
theorem XV_block (id : Nat) (b : AC) (st : St) : EV P (.block id b) st = blkK (EV P b st) id := by
  rw [EV_block]; cases EV P b st with
  | none => rfl
  | some r => obtain ⟨e, s⟩ := r; cases e <;> rfl
theorem XV_cond (g : Bool) (c : Opd) (a b : AC) (st : St) : EV P (.cond g c a b) st = condK P (c.get P.glob st) g c st a b := by
  rw [EV_cond]; cases c.get P.glob st <;> first | rfl | (rename_i t; cases t <;> rfl)
theorem XV_region (d : Bool) (ops : List AOper) (bs : List BOp) (h : opsOf bs = ops) (hk : killOk bs = true) (st : St) : EV P (.region d ops) st = regK (runB P bs { per := st.per, reg := [], H := st.H, ed := st.ed }) := by
  subst h
  rw [EV_region]
  have := runB_same (G := P.glob) (C := CL P) bs { st with reg := [] } { st with reg := [] } hk (alike_refl _ _)
  show _ = regK (runBOf P.glob (CL P) bs { st with reg := [] })
  cases h1 : evOps P.glob (CL P) (opsOf bs) { st with reg := [] } <;> cases h2 : runBOf P.glob (CL P) bs { st with reg := [] } <;> rw [h1, h2] at this
  · rfl
  · simp at this
  · simp at this
  · simp only [Option.map_some, Option.some.injEq] at this
    simp only [regK, this]
theorem X_nil (st : St) : runB P [] st = some st := rfl
theorem X_kill (ks : List Nat) (os : List BOp) (st : St) : runB P (.kill ks :: os) st = runB P os { per := st.per, reg := ks.foldl Env.erase st.reg, H := st.H, ed := st.ed } := rfl
theorem X_cons (d : Option (Bool × Nat)) (op : AOp) (s : Bool) (cl : List Opd) (os : List BOp) (st : St) : runB P (.op ⟨d, op, none, s, cl⟩ :: os) st = opsK P (putK st d (evOper P.glob (CL P) st ⟨d, op, none, s, cl⟩)) os := by
  rw [runB, runBOf]; simp only [wanted]; cases evOper P.glob (CL P) st ⟨d, op, none, s, cl⟩ <;> rfl
theorem X_guard (d : Option (Bool × Nat)) (op : AOp) (g : Opd) (w : Bool) (s : Bool) (cl : List Opd) (os : List BOp) (st : St) : runB P (.op ⟨d, op, some (g, w), s, cl⟩ :: os) st = opsK P (grdK P (wantK (g.get P.glob st) w) st ⟨d, op, some (g, w), s, cl⟩) os := by
  rw [runB, runBOf]; simp only [wanted]
  cases g.get P.glob st with
  | bool b =>
    cases hb : b == w with
    | true =>
      rw [wantK, hb, grdK, if_pos rfl]; simp only [hb]
      cases evOper P.glob (CL P) st ⟨d, op, some (g, w), s, cl⟩ <;> rfl
    | false => rw [wantK, hb, grdK, if_neg (by simp)]; simp only [hb]; rfl
  | und => rfl
  | _ => rfl
theorem grdK_some (b : Bool) (st : St) (d : Option (Bool × Nat)) (op : AOp) (g : Option (Opd × Bool)) (s : Bool) (cl : List Opd) : grdK P (some b) st ⟨d, op, g, s, cl⟩ = if b = true then putK st d (evOper P.glob (CL P) st ⟨d, op, g, s, cl⟩) else some (st.put d .und) := rfl
theorem oper_plain (d : Option (Bool × Nat)) (op : AOp) (g : Option (Opd × Bool)) (st : St) : evOper P.glob (CL P) st ⟨d, op, g, false, []⟩ = evOp P.glob (CL P) st op := rfl
theorem CL_p (f : Nat) (a : List PV) : (CL P).p f a = EP P f a := rfl
theorem CL_s (f : Nat) (a : List PV) (H : Heap) : (CL P).s f a H = ES P f a H := rfl
theorem seqK_normal (st : St) (b : AC) : seqK P (some (.normal, st)) b = EV P b st := rfl
theorem seqK_ret (st : St) (b : AC) : seqK P (some (.ret, st)) b = some (.ret, st) := rfl
theorem seqK_exit (i : Nat) (st : St) (b : AC) : seqK P (some (.exit i, st)) b = some (.exit i, st) := rfl
theorem seqK_ite {p : Prop} [Decidable p] (x y : Option (AExit × St)) (b : AC) : seqK P (if p then x else y) b = if p then seqK P x b else seqK P y b := by by_cases h : p <;> simp only [h, if_true, if_false]
theorem blkK_normal (st : St) (i : Nat) : blkK (some (.normal, st)) i = some (.normal, st) := rfl
theorem blkK_ret (st : St) (i : Nat) : blkK (some (.ret, st)) i = some (.ret, st) := rfl
theorem blkK_exit (i j : Nat) (st : St) : blkK (some (.exit j, st)) i = match Nat.beq j i with | true => some (.normal, st) | false => some (.exit j, st) := rfl
theorem blkK_ite {p : Prop} [Decidable p] (x y : Option (AExit × St)) (b : Nat) : blkK (if p then x else y) b = if p then blkK x b else blkK y b := by by_cases h : p <;> simp only [h, if_true, if_false]
theorem condK_bool (t g : Bool) (c : Opd) (st : St) (a b : AC) : condK P (.bool t) g c st a b = if t = true then EV P a (goneIn g c st) else EV P b (goneIn g c st) := rfl
theorem condK_ite {p : Prop} [Decidable p] (x y : PV) (g : Bool) (c : Opd) (st : St) (a b : AC) : condK P (if p then x else y) g c st a b = if p then condK P x g c st a b else condK P y g c st a b := by by_cases h : p <;> simp only [h, if_true, if_false]
theorem opsK_some (st : St) (os : List BOp) : opsK P (some st) os = runB P os st := rfl
theorem opsK_ite {p : Prop} [Decidable p] (x y : Option St) (b : List BOp) : opsK P (if p then x else y) b = if p then opsK P x b else opsK P y b := by by_cases h : p <;> simp only [h, if_true, if_false]
theorem putK_some (st : St) (d : Option (Bool × Nat)) (v : PV) (H : Heap) (ed : Edges) : putK st d (some (v, H, ed)) = some (St.put { st with H := H, ed := ed ++ st.ed } d v) := rfl
theorem wantK_ite {p : Prop} [Decidable p] (x y : PV) (w : Bool) : wantK (if p then x else y) w = if p then wantK x w else wantK y w := by by_cases h : p <;> simp only [h, if_true, if_false]
theorem wantK_bool (b w : Bool) : wantK (.bool b) w = some (b == w) := rfl
theorem wantK_und (w : Bool) : wantK .und w = some false := rfl
theorem regK_some (st : St) : regK (some st) = some (.normal, { st with reg := [] }) := rfl
theorem regK_ite {p : Prop} [Decidable p] (x y : Option St) : regK (if p then x else y) = if p then regK x else regK y := by by_cases h : p <;> simp only [h, if_true, if_false]
def pickK : PV → PV → PV → Heap → Option (PV × Heap × Edges)
  | .bool t, x, y, H => some (if t = true then x else y, H, [])
  | _, _, _, _ => none
theorem X_pickOp (c a b : Opd) (st : St) : evOp P.glob (CL P) st (.pick c a b) = pickK (c.get P.glob st) (a.get P.glob st) (b.get P.glob st) st.H := by
  simp only [evOp]; cases c.get P.glob st <;> first | rfl | (rename_i t; cases t <;> rfl)
theorem ite_someT {p : Prop} [Decidable p] (x y : PV) (H : Heap) (e : Edges) : (if p then some (x, H, e) else some (y, H, e)) = some (if p then x else y, H, e) := by by_cases h : p <;> simp only [h, if_true, if_false]
theorem ite_back {α : Type} [DecidableEq α] (a b : α) : (if a = b then b else a) = a := by by_cases h : a = b <;> simp [h]
section
variable {p : Prop} [Decidable p]
theorem ite_someB (x y : Bool) : (if p then some x else some y) = some (if p then x else y) := by by_cases h : p <;> simp only [h, if_true, if_false]
theorem ite_someS (x y : St) : (if p then some x else some y) = some (if p then x else y) := by by_cases h : p <;> simp only [h, if_true, if_false]
theorem ite_someV (x y : PV) : (if p then some x else some y) = some (if p then x else y) := by by_cases h : p <;> simp only [h, if_true, if_false]
theorem ite_exit (e : AExit) (x y : St) : (if p then some (e, x) else some (e, y)) = some (e, if p then x else y) := by by_cases h : p <;> simp only [h, if_true, if_false]
theorem ite_St (a a' : Env) (b b' : Env) (c c' : Heap) (d d' : Edges) : (if p then St.mk a b c d else St.mk a' b' c' d') = St.mk (if p then a else a') (if p then b else b') (if p then c else c') (if p then d else d') := by by_cases h : p <;> simp only [h, if_true, if_false]
theorem ite_env (n : Nat) (a b : PV) (l m : Env) : (if p then (n, a) :: l else (n, b) :: m) = (n, if p then a else b) :: (if p then l else m) := by by_cases h : p <;> simp only [h, if_true, if_false]
theorem ite_bool (x y : Bool) : (if p then PV.bool x else PV.bool y) = PV.bool (if p then x else y) := by by_cases h : p <;> simp only [h, if_true, if_false]
theorem ite_int (k : IntKind) (x y : Int) : (if p then PV.int k x else PV.int k y) = PV.int k (if p then x else y) := by by_cases h : p <;> simp only [h, if_true, if_false]
theorem ite_agg (x y : List PV) : (if p then PV.agg x else PV.agg y) = PV.agg (if p then x else y) := by by_cases h : p <;> simp only [h, if_true, if_false]
theorem ite_cells (a b : PV) (l m : List PV) : (if p then a :: l else b :: m) = (if p then a else b) :: (if p then l else m) := by by_cases h : p <;> simp only [h, if_true, if_false]
theorem ite_blks (a b : Blk) (l m : Heap) : (if p then a :: l else b :: m) = (if p then a else b) :: (if p then l else m) := by by_cases h : p <;> simp only [h, if_true, if_false]
theorem ite_blk (s : Nat) (l m : List (List PV)) : (if p then Blk.cells s l else Blk.cells s m) = Blk.cells s (if p then l else m) := by by_cases h : p <;> simp only [h, if_true, if_false]
theorem ite_rows (a b : List PV) (l m : List (List PV)) : (if p then a :: l else b :: m) = (if p then a else b) :: (if p then l else m) := by by_cases h : p <;> simp only [h, if_true, if_false]
theorem env_get_ite (l m : Env) (n : Nat) : Env.get (if p then l else m) n = if p then Env.get l n else Env.get m n := by by_cases h : p <;> simp only [h, if_true, if_false]
theorem env_put_ite (l m : Env) (n : Nat) (v : PV) : Env.put (if p then l else m) n v = if p then Env.put l n v else Env.put m n v := by by_cases h : p <;> simp only [h, if_true, if_false]
theorem env_erase_ite (l m : Env) (n : Nat) : Env.erase (if p then l else m) n = if p then Env.erase l n else Env.erase m n := by by_cases h : p <;> simp only [h, if_true, if_false]
theorem frz_ite (d : Nat) (H : Heap) (x y : PV) : frz d H (if p then x else y) = if p then frz d H x else frz d H y := by by_cases h : p <;> simp only [h, if_true, if_false]
end
theorem beq_t (b : Bool) : (b == true) = b := by cases b <;> rfl
theorem beq_f (b : Bool) : (b == false) = !b := by cases b <;> rfl
theorem not_ite {α : Type} {p : Prop} [Decidable p] (x y : α) : (if ¬p then x else y) = if p then y else x := by by_cases h : p <;> simp only [h, not_true, not_false_iff, if_true, if_false]
def nth {α : Type} [Inhabited α] (l : List α) (i : Int) : α := l.getD i.toNat default
theorem nth_some {α : Type} [Inhabited α] {l : List α} {i : Int} (h0 : 0 ≤ i) (h : i < l.length) : l[i.toNat]? = some (nth l i) := by
  have : i.toNat < l.length := by omega
  simp [nth, List.getD, this]
end
end
section
section
variable {P : AProg}
def gv : Option Bool → Option PV → Option PV
  | some b, r => if b = true then r else some .und
  | none, _ => none
noncomputable def vK (P : AProg) (st : St) (d : Option (Bool × Nat)) : Option PV → List BOp → Option St
  | some v, os => runB P os (st.put d v)
  | none, _ => none
@[congr] theorem vK_congr {st : St} {d : Option (Bool × Nat)} {r r' : Option PV} {os : List BOp} (h : r = r') : vK P st d r os = vK P st d r' os := by rw [h]
theorem vK_some (st : St) (d : Option (Bool × Nat)) (v : PV) (os : List BOp) : vK P st d (some v) os = runB P os (st.put d v) := rfl
theorem gv_some (b : Bool) (r : Option PV) : gv (some b) r = if b = true then r else some .und := rfl
def pickV : PV → PV → PV → Option PV
  | .bool t, x, y => some (if t = true then x else y)
  | _, _, _ => none
def loadV (agg : Bool) (sz : Nat) (a : PV) (H : Heap) : Option PV := match cellsAt H a with | some cs => takeCells agg sz cs | none => none
def nilCheckV : PV → Option PV
  | .ptr a b c d => some (.ptr a b c d)
  | .fp a b => some (.fp a b)
  | _ => none
def eqBV (neg : Bool) : PV → PV → Option PV
  | .bool p, .bool q => some (.bool (negB neg (p == q)))
  | _, _ => none
def convV (k : IntKind) : PV → Option PV
  | .int _ n => some (.int k (k.wrap n))
  | _ => none
def mkfnV (f : Nat) (caps : List PV) : Option PV := if caps.all isLeaf = true then some (.fn f caps) else none
def fieldAV (o : Nat) : PV → Option PV
  | .ptr id row off tot => some (.ptr id row (off + o) tot)
  | .fp cs off => some (.fp cs (off + o))
  | _ => none
def fieldV (agg : Bool) (off sz : Nat) : PV → Option PV
  | .agg cs => takeCells agg sz (cs.drop off)
  | _ => none
def lenV : PV → Option PV
  | .fz rows => some (.int .i64 rows.length)
  | .sl _ _ n _ => some (.int .i64 n)
  | .nils => some (.int .i64 0)
  | _ => none
def lenSV : PV → Option PV
  | .str s => some (.int .i64 s.size)
  | _ => none
def extractV (i : Nat) : PV → Option PV
  | .tup vs => vs[i]?
  | _ => none
def indexAV (sz : Nat) (H : Heap) (x i : PV) : Option PV := match i with
  | .int _ n => if 0 ≤ n then match x with
      | .fz rows => match rows[n.toNat]? with
        | some r => if r.length = sz then some (.fp r 0) else none
        | none => none
      | .sl id off len tot => match H[id]? with
        | some (.cells s rows) => if s = sz ∧ tot = rows.length ∧ n < len ∧ off + len ≤ tot then some (.ptr id (off + n.toNat) 0 tot) else none
        | _ => none
      | _ => none
    else none
  | _ => none
noncomputable def callV (P : AProg) (H : Heap) (f : Nat) (args : List PV) : Option PV := match EP P f (args.map (frz 8 H)) with
  | some v => if (refsL args).isEmpty || plainRes v then some v else none
  | none => none
noncomputable def callvV (P : AProg) (H : Heap) (x : PV) (args : List PV) : Option PV := match x with
  | .fn f caps => callV P H f (args ++ caps)
  | _ => none
def buildV (zero : List PV) (parts : List (Nat × Nat × PV)) : Option PV := if (parts.all fun p => (cellsOf p.2.2).length == p.2.1) = true then match fillRow zero (parts.map fun p => (p.1, cellsOf p.2.2)) with
      | some cs => some (.agg cs)
      | none => none
    else none
def lookV (tag : Nat) (zero : PV) (ok : Bool) (H : Heap) (m k : PV) : Option PV := match entriesOf H m with
    | some es => match findKey tag k es with
      | some r => some (lookRes zero ok r)
      | none => none
    | none => none
theorem to_v (st : St) (d : Option (Bool × Nat)) (g : Option (Opd × Bool)) (op : AOp) (os : List BOp) (r : Option PV) (h : evOp P.glob (CL P) st op = r.map fun v => (v, st.H, [])) :
    runB P (.op ⟨d, op, g, false, []⟩ :: os) st = vK P st d (match g with | none => r | some (x, w) => gv (wantK (x.get P.glob st) w) r) os := by
  cases g with
  | none =>
    rw [X_cons, oper_plain, h]; cases r <;> rfl
  | some g =>
    obtain ⟨x, w⟩ := g
    rw [X_guard]
    show opsK P (grdK P (wantK (x.get P.glob st) w) st _) os = vK P st d (gv (wantK (x.get P.glob st) w) r) os
    cases wantK (x.get P.glob st) w with
    | none => rfl
    | some b =>
      rw [grdK_some, oper_plain, h]
      cases b
      · rfl
      · cases r <;> rfl
variable (st : St) (d : Option (Bool × Nat)) (os : List BOp)
section
variable (w : Bool) (q : Opd)
theorem v_copy (x : Opd) : evOp P.glob (CL P) st (.copy x) = (some (x.get P.glob st)).map fun v => (v, st.H, []) := by rfl
theorem v_pick (a b c : Opd) : evOp P.glob (CL P) st (.pick a b c) = (pickV (a.get P.glob st) (b.get P.glob st) (c.get P.glob st)).map fun v => (v, st.H, []) := by rw [X_pickOp]; cases a.get P.glob st <;> rfl
theorem v_load (agg : Bool) (sz : Nat) (x : Opd) : evOp P.glob (CL P) st (.load agg sz x) = (loadV agg sz (x.get P.glob st) st.H).map fun v => (v, st.H, []) := by simp only [evOp, loadV]; cases cellsAt st.H (x.get P.glob st) with | none => rfl | some cs => dsimp only; cases takeCells agg sz cs <;> rfl
theorem v_nilCheck (x : Opd) : evOp P.glob (CL P) st (.nilCheck x) = (nilCheckV (x.get P.glob st)).map fun v => (v, st.H, []) := by simp only [evOp]; cases x.get P.glob st <;> rfl
theorem v_bin (o : BinOp) (x y : Opd) : evOp P.glob (CL P) st (.bin o x y) = (Av.bin o (x.get P.glob st) (y.get P.glob st)).map fun v => (v, st.H, []) := by simp only [evOp]; cases Av.bin o (x.get P.glob st) (y.get P.glob st) <;> rfl
theorem v_eqB (neg : Bool) (x y : Opd) : evOp P.glob (CL P) st (.eqB neg x y) = (eqBV neg (x.get P.glob st) (y.get P.glob st)).map fun v => (v, st.H, []) := by simp only [evOp]; cases x.get P.glob st <;> cases y.get P.glob st <;> rfl
theorem v_un (o : UnOp) (x : Opd) : evOp P.glob (CL P) st (.un o x) = (Av.un o (x.get P.glob st)).map fun v => (v, st.H, []) := by simp only [evOp]; cases Av.un o (x.get P.glob st) <;> rfl
theorem v_prim (k : Prim) (x : Opd) : evOp P.glob (CL P) st (.prim k x) = (primV k (x.get P.glob st)).map fun v => (v, st.H, []) := by simp only [evOp]; cases primV k (x.get P.glob st) <;> rfl
theorem v_minmax (k : Bool) (x y : Opd) : evOp P.glob (CL P) st (.minmax k x y) = (mmV k (x.get P.glob st) (y.get P.glob st)).map fun v => (v, st.H, []) := by simp only [evOp]; cases mmV k (x.get P.glob st) (y.get P.glob st) <;> rfl
theorem v_indexP (n sz : Nat) (x y : Opd) : evOp P.glob (CL P) st (.indexP n sz x y) = (idxP n sz (x.get P.glob st) (y.get P.glob st)).map fun v => (v, st.H, []) := by simp only [evOp]; cases idxP n sz (x.get P.glob st) (y.get P.glob st) <;> rfl
theorem v_conv (k : IntKind) (x : Opd) : evOp P.glob (CL P) st (.conv k x) = (convV k (x.get P.glob st)).map fun v => (v, st.H, []) := by simp only [evOp]; cases x.get P.glob st <;> rfl
theorem v_mkfn (f : Nat) (xs : List Opd) : evOp P.glob (CL P) st (.mkfn f xs) = (mkfnV f (xs.map (Opd.get P.glob st))).map fun v => (v, st.H, []) := by simp only [evOp, mkfnV]; cases (xs.map (Opd.get P.glob st)).all isLeaf <;> rfl
theorem v_fieldA (n : Nat) (x : Opd) : evOp P.glob (CL P) st (.fieldA n x) = (fieldAV n (x.get P.glob st)).map fun v => (v, st.H, []) := by simp only [evOp]; cases x.get P.glob st <;> rfl
theorem v_field (agg : Bool) (n sz : Nat) (x : Opd) : evOp P.glob (CL P) st (.field agg n sz x) = (fieldV agg n sz (x.get P.glob st)).map fun v => (v, st.H, []) := by simp only [evOp]; cases x.get P.glob st with | agg cs => dsimp only [fieldV]; cases takeCells agg sz (cs.drop n) <;> rfl | _ => rfl
theorem v_len (x : Opd) : evOp P.glob (CL P) st (.len x) = (lenV (x.get P.glob st)).map fun v => (v, st.H, []) := by simp only [evOp]; cases x.get P.glob st <;> rfl
theorem v_lenS (x : Opd) : evOp P.glob (CL P) st (.lenS x) = (lenSV (x.get P.glob st)).map fun v => (v, st.H, []) := by simp only [evOp]; cases x.get P.glob st <;> rfl
theorem v_extract (x : Opd) (n : Nat) : evOp P.glob (CL P) st (.extract x n) = (extractV n (x.get P.glob st)).map fun v => (v, st.H, []) := by simp only [evOp]; cases x.get P.glob st with | tup vs => dsimp only [extractV]; cases vs[n]? <;> rfl | _ => rfl
theorem v_indexA (sz : Nat) (x y : Opd) : evOp P.glob (CL P) st (.indexA sz x y) = (indexAV sz st.H (x.get P.glob st) (y.get P.glob st)).map fun v => (v, st.H, []) := by
  simp only [evOp, indexAV]
  cases y.get P.glob st with
  | int k n =>
    by_cases h0 : 0 ≤ n
    · simp only [h0, decide_true, if_true]
      cases x.get P.glob st with
      | fz rows =>
        dsimp only
        cases rows[n.toNat]? with
        | none => rfl
        | some r =>
          dsimp only
          have e : (r.length == sz) = decide (r.length = sz) := by rw [Bool.eq_iff_iff]; simp
          rw [e]
          by_cases hc : r.length = sz
          · rw [decide_eq_true hc, if_pos hc]; rfl
          · rw [decide_eq_false hc, if_neg hc]; rfl
      | sl id off len tot =>
        dsimp only
        cases st.H[id]? with
        | none => rfl
        | some b =>
          cases b with
          | cells s rows =>
            dsimp only
            have e : (s == sz && tot == rows.length && decide (n < len) && decide (off + len ≤ tot)) = decide (s = sz ∧ tot = rows.length ∧ n < len ∧ off + len ≤ tot) := by rw [Bool.eq_iff_iff]; simp [and_assoc]
            rw [e]
            by_cases hc : s = sz ∧ tot = rows.length ∧ n < len ∧ off + len ≤ tot
            · rw [decide_eq_true hc, if_pos hc]; rfl
            · rw [decide_eq_false hc, if_neg hc]; rfl
          | map es => rfl
      | _ => rfl
    · simp [h0]
  | _ => rfl
theorem v_call (f : Nat) (xs : List Opd) : evOp P.glob (CL P) st (.call .pure f xs) = (callV P st.H f (xs.map (Opd.get P.glob st))).map fun v => (v, st.H, []) := by
  show evCall (CL P) st.H .pure f (xs.map (Opd.get P.glob st)) = _
  simp only [evCall, callV, CL_p]
  cases EP P f ((xs.map (Opd.get P.glob st)).map (frz 8 st.H)) with
  | none => rfl
  | some v => dsimp only; cases (refsL (xs.map (Opd.get P.glob st))).isEmpty || plainRes v <;> rfl
theorem v_callv (x : Opd) (xs : List Opd) : evOp P.glob (CL P) st (.callv .pure x xs) = (callvV P st.H (x.get P.glob st) (xs.map (Opd.get P.glob st))).map fun v => (v, st.H, []) := by
  simp only [evOp]
  cases x.get P.glob st with
  | fn f caps =>
    show evCall (CL P) st.H .pure f (xs.map (Opd.get P.glob st) ++ caps) = _
    simp only [evCall, callvV, callV, CL_p]
    cases EP P f ((xs.map (Opd.get P.glob st) ++ caps).map (frz 8 st.H)) with
    | none => rfl
    | some v => dsimp only; cases (refsL (xs.map (Opd.get P.glob st) ++ caps)).isEmpty || plainRes v <;> rfl
  | _ => rfl
theorem v_build (zero : List PV) (parts : List (Nat × Nat × Opd)) : evOp P.glob (CL P) st (.build zero parts) = (buildV zero (parts.map fun p => (p.1, p.2.1, p.2.2.get P.glob st))).map fun v => (v, st.H, []) := by
  simp only [evOp, buildV, List.all_map, List.map_map]
  show (match parts.all fun p => (cellsOf (p.2.2.get P.glob st)).length == p.2.1 with | true => _ | false => _) = _
  have : (parts.all ((fun p : Nat × Nat × PV => (cellsOf p.2.2).length == p.2.1) ∘ fun p : Nat × Nat × Opd => (p.1, p.2.1, p.2.2.get P.glob st))) = parts.all fun p => (cellsOf (p.2.2.get P.glob st)).length == p.2.1 := rfl
  rw [this]
  cases parts.all fun p => (cellsOf (p.2.2.get P.glob st)).length == p.2.1 with
  | false => rfl
  | true =>
    dsimp only [if_true]
    have h2 : ((fun p : Nat × Nat × PV => (p.1, cellsOf p.2.2)) ∘ fun p : Nat × Nat × Opd => (p.1, p.2.1, p.2.2.get P.glob st)) = fun p => (p.1, cellsOf (p.2.2.get P.glob st)) := rfl
    rw [h2]
    cases fillRow zero (parts.map fun p => (p.1, cellsOf (p.2.2.get P.glob st))) <;> rfl
theorem v_lookup (tag : Nat) (zero : PV) (ok : Bool) (x y : Opd) : evOp P.glob (CL P) st (.lookup tag zero ok x y) = (lookV tag zero ok st.H (x.get P.glob st) (y.get P.glob st)).map fun v => (v, st.H, []) := by
  simp only [evOp, lookV]
  cases entriesOf st.H (x.get P.glob st) with
  | none => rfl
  | some es => dsimp only; cases findKey tag (y.get P.glob st) es <;> rfl
theorem X_copy (x : Opd) : runB P (.op ⟨d, .copy x, none, false, []⟩ :: os) st = vK P st d (some (x.get P.glob st)) os := to_v st d none _ os _ (v_copy st x)
theorem XG_copy (x : Opd) : runB P (.op ⟨d, .copy x, some (q, w), false, []⟩ :: os) st = vK P st d (gv (wantK (q.get P.glob st) w) (some (x.get P.glob st))) os := to_v st d (some (q, w)) _ os _ (v_copy st x)
theorem X_pick (a b c : Opd) : runB P (.op ⟨d, .pick a b c, none, false, []⟩ :: os) st = vK P st d (pickV (a.get P.glob st) (b.get P.glob st) (c.get P.glob st)) os := to_v st d none _ os _ (v_pick st a b c)
theorem XG_pick (a b c : Opd) : runB P (.op ⟨d, .pick a b c, some (q, w), false, []⟩ :: os) st = vK P st d (gv (wantK (q.get P.glob st) w) (pickV (a.get P.glob st) (b.get P.glob st) (c.get P.glob st))) os := to_v st d (some (q, w)) _ os _ (v_pick st a b c)
theorem X_load (agg : Bool) (sz : Nat) (x : Opd) : runB P (.op ⟨d, .load agg sz x, none, false, []⟩ :: os) st = vK P st d (loadV agg sz (x.get P.glob st) st.H) os := to_v st d none _ os _ (v_load st agg sz x)
theorem XG_load (agg : Bool) (sz : Nat) (x : Opd) : runB P (.op ⟨d, .load agg sz x, some (q, w), false, []⟩ :: os) st = vK P st d (gv (wantK (q.get P.glob st) w) (loadV agg sz (x.get P.glob st) st.H)) os := to_v st d (some (q, w)) _ os _ (v_load st agg sz x)
theorem X_nilCheck (x : Opd) : runB P (.op ⟨d, .nilCheck x, none, false, []⟩ :: os) st = vK P st d (nilCheckV (x.get P.glob st)) os := to_v st d none _ os _ (v_nilCheck st x)
theorem XG_nilCheck (x : Opd) : runB P (.op ⟨d, .nilCheck x, some (q, w), false, []⟩ :: os) st = vK P st d (gv (wantK (q.get P.glob st) w) (nilCheckV (x.get P.glob st))) os := to_v st d (some (q, w)) _ os _ (v_nilCheck st x)
theorem X_bin (o : BinOp) (x y : Opd) : runB P (.op ⟨d, .bin o x y, none, false, []⟩ :: os) st = vK P st d (Av.bin o (x.get P.glob st) (y.get P.glob st)) os := to_v st d none _ os _ (v_bin st o x y)
theorem XG_bin (o : BinOp) (x y : Opd) : runB P (.op ⟨d, .bin o x y, some (q, w), false, []⟩ :: os) st = vK P st d (gv (wantK (q.get P.glob st) w) (Av.bin o (x.get P.glob st) (y.get P.glob st))) os := to_v st d (some (q, w)) _ os _ (v_bin st o x y)
theorem X_eqB (neg : Bool) (x y : Opd) : runB P (.op ⟨d, .eqB neg x y, none, false, []⟩ :: os) st = vK P st d (eqBV neg (x.get P.glob st) (y.get P.glob st)) os := to_v st d none _ os _ (v_eqB st neg x y)
theorem XG_eqB (neg : Bool) (x y : Opd) : runB P (.op ⟨d, .eqB neg x y, some (q, w), false, []⟩ :: os) st = vK P st d (gv (wantK (q.get P.glob st) w) (eqBV neg (x.get P.glob st) (y.get P.glob st))) os := to_v st d (some (q, w)) _ os _ (v_eqB st neg x y)
theorem X_un (o : UnOp) (x : Opd) : runB P (.op ⟨d, .un o x, none, false, []⟩ :: os) st = vK P st d (Av.un o (x.get P.glob st)) os := to_v st d none _ os _ (v_un st o x)
theorem XG_un (o : UnOp) (x : Opd) : runB P (.op ⟨d, .un o x, some (q, w), false, []⟩ :: os) st = vK P st d (gv (wantK (q.get P.glob st) w) (Av.un o (x.get P.glob st))) os := to_v st d (some (q, w)) _ os _ (v_un st o x)
theorem X_prim (k : Prim) (x : Opd) : runB P (.op ⟨d, .prim k x, none, false, []⟩ :: os) st = vK P st d (primV k (x.get P.glob st)) os := to_v st d none _ os _ (v_prim st k x)
theorem XG_prim (k : Prim) (x : Opd) : runB P (.op ⟨d, .prim k x, some (q, w), false, []⟩ :: os) st = vK P st d (gv (wantK (q.get P.glob st) w) (primV k (x.get P.glob st))) os := to_v st d (some (q, w)) _ os _ (v_prim st k x)
theorem X_minmax (k : Bool) (x y : Opd) : runB P (.op ⟨d, .minmax k x y, none, false, []⟩ :: os) st = vK P st d (mmV k (x.get P.glob st) (y.get P.glob st)) os := to_v st d none _ os _ (v_minmax st k x y)
theorem XG_minmax (k : Bool) (x y : Opd) : runB P (.op ⟨d, .minmax k x y, some (q, w), false, []⟩ :: os) st = vK P st d (gv (wantK (q.get P.glob st) w) (mmV k (x.get P.glob st) (y.get P.glob st))) os := to_v st d (some (q, w)) _ os _ (v_minmax st k x y)
theorem X_indexP (n sz : Nat) (x y : Opd) : runB P (.op ⟨d, .indexP n sz x y, none, false, []⟩ :: os) st = vK P st d (idxP n sz (x.get P.glob st) (y.get P.glob st)) os := to_v st d none _ os _ (v_indexP st n sz x y)
theorem XG_indexP (n sz : Nat) (x y : Opd) : runB P (.op ⟨d, .indexP n sz x y, some (q, w), false, []⟩ :: os) st = vK P st d (gv (wantK (q.get P.glob st) w) (idxP n sz (x.get P.glob st) (y.get P.glob st))) os := to_v st d (some (q, w)) _ os _ (v_indexP st n sz x y)
theorem X_conv (k : IntKind) (x : Opd) : runB P (.op ⟨d, .conv k x, none, false, []⟩ :: os) st = vK P st d (convV k (x.get P.glob st)) os := to_v st d none _ os _ (v_conv st k x)
theorem XG_conv (k : IntKind) (x : Opd) : runB P (.op ⟨d, .conv k x, some (q, w), false, []⟩ :: os) st = vK P st d (gv (wantK (q.get P.glob st) w) (convV k (x.get P.glob st))) os := to_v st d (some (q, w)) _ os _ (v_conv st k x)
theorem X_mkfn (f : Nat) (xs : List Opd) : runB P (.op ⟨d, .mkfn f xs, none, false, []⟩ :: os) st = vK P st d (mkfnV f (xs.map (Opd.get P.glob st))) os := to_v st d none _ os _ (v_mkfn st f xs)
theorem XG_mkfn (f : Nat) (xs : List Opd) : runB P (.op ⟨d, .mkfn f xs, some (q, w), false, []⟩ :: os) st = vK P st d (gv (wantK (q.get P.glob st) w) (mkfnV f (xs.map (Opd.get P.glob st)))) os := to_v st d (some (q, w)) _ os _ (v_mkfn st f xs)
theorem X_fieldA (n : Nat) (x : Opd) : runB P (.op ⟨d, .fieldA n x, none, false, []⟩ :: os) st = vK P st d (fieldAV n (x.get P.glob st)) os := to_v st d none _ os _ (v_fieldA st n x)
theorem XG_fieldA (n : Nat) (x : Opd) : runB P (.op ⟨d, .fieldA n x, some (q, w), false, []⟩ :: os) st = vK P st d (gv (wantK (q.get P.glob st) w) (fieldAV n (x.get P.glob st))) os := to_v st d (some (q, w)) _ os _ (v_fieldA st n x)
theorem X_field (agg : Bool) (n sz : Nat) (x : Opd) : runB P (.op ⟨d, .field agg n sz x, none, false, []⟩ :: os) st = vK P st d (fieldV agg n sz (x.get P.glob st)) os := to_v st d none _ os _ (v_field st agg n sz x)
theorem XG_field (agg : Bool) (n sz : Nat) (x : Opd) : runB P (.op ⟨d, .field agg n sz x, some (q, w), false, []⟩ :: os) st = vK P st d (gv (wantK (q.get P.glob st) w) (fieldV agg n sz (x.get P.glob st))) os := to_v st d (some (q, w)) _ os _ (v_field st agg n sz x)
theorem X_len (x : Opd) : runB P (.op ⟨d, .len x, none, false, []⟩ :: os) st = vK P st d (lenV (x.get P.glob st)) os := to_v st d none _ os _ (v_len st x)
theorem XG_len (x : Opd) : runB P (.op ⟨d, .len x, some (q, w), false, []⟩ :: os) st = vK P st d (gv (wantK (q.get P.glob st) w) (lenV (x.get P.glob st))) os := to_v st d (some (q, w)) _ os _ (v_len st x)
theorem X_lenS (x : Opd) : runB P (.op ⟨d, .lenS x, none, false, []⟩ :: os) st = vK P st d (lenSV (x.get P.glob st)) os := to_v st d none _ os _ (v_lenS st x)
theorem XG_lenS (x : Opd) : runB P (.op ⟨d, .lenS x, some (q, w), false, []⟩ :: os) st = vK P st d (gv (wantK (q.get P.glob st) w) (lenSV (x.get P.glob st))) os := to_v st d (some (q, w)) _ os _ (v_lenS st x)
theorem X_extract (x : Opd) (n : Nat) : runB P (.op ⟨d, .extract x n, none, false, []⟩ :: os) st = vK P st d (extractV n (x.get P.glob st)) os := to_v st d none _ os _ (v_extract st x n)
theorem XG_extract (x : Opd) (n : Nat) : runB P (.op ⟨d, .extract x n, some (q, w), false, []⟩ :: os) st = vK P st d (gv (wantK (q.get P.glob st) w) (extractV n (x.get P.glob st))) os := to_v st d (some (q, w)) _ os _ (v_extract st x n)
theorem X_indexA (sz : Nat) (x y : Opd) : runB P (.op ⟨d, .indexA sz x y, none, false, []⟩ :: os) st = vK P st d (indexAV sz st.H (x.get P.glob st) (y.get P.glob st)) os := to_v st d none _ os _ (v_indexA st sz x y)
theorem XG_indexA (sz : Nat) (x y : Opd) : runB P (.op ⟨d, .indexA sz x y, some (q, w), false, []⟩ :: os) st = vK P st d (gv (wantK (q.get P.glob st) w) (indexAV sz st.H (x.get P.glob st) (y.get P.glob st))) os := to_v st d (some (q, w)) _ os _ (v_indexA st sz x y)
theorem X_call (f : Nat) (xs : List Opd) : runB P (.op ⟨d, .call .pure f xs, none, false, []⟩ :: os) st = vK P st d (callV P st.H f (xs.map (Opd.get P.glob st))) os := to_v st d none _ os _ (v_call st f xs)
theorem XG_call (f : Nat) (xs : List Opd) : runB P (.op ⟨d, .call .pure f xs, some (q, w), false, []⟩ :: os) st = vK P st d (gv (wantK (q.get P.glob st) w) (callV P st.H f (xs.map (Opd.get P.glob st)))) os := to_v st d (some (q, w)) _ os _ (v_call st f xs)
theorem X_callv (x : Opd) (xs : List Opd) : runB P (.op ⟨d, .callv .pure x xs, none, false, []⟩ :: os) st = vK P st d (callvV P st.H (x.get P.glob st) (xs.map (Opd.get P.glob st))) os := to_v st d none _ os _ (v_callv st x xs)
theorem XG_callv (x : Opd) (xs : List Opd) : runB P (.op ⟨d, .callv .pure x xs, some (q, w), false, []⟩ :: os) st = vK P st d (gv (wantK (q.get P.glob st) w) (callvV P st.H (x.get P.glob st) (xs.map (Opd.get P.glob st)))) os := to_v st d (some (q, w)) _ os _ (v_callv st x xs)
theorem X_build (zero : List PV) (parts : List (Nat × Nat × Opd)) : runB P (.op ⟨d, .build zero parts, none, false, []⟩ :: os) st = vK P st d (buildV zero (parts.map fun p => (p.1, p.2.1, p.2.2.get P.glob st))) os := to_v st d none _ os _ (v_build st zero parts)
theorem XG_build (zero : List PV) (parts : List (Nat × Nat × Opd)) : runB P (.op ⟨d, .build zero parts, some (q, w), false, []⟩ :: os) st = vK P st d (gv (wantK (q.get P.glob st) w) (buildV zero (parts.map fun p => (p.1, p.2.1, p.2.2.get P.glob st)))) os := to_v st d (some (q, w)) _ os _ (v_build st zero parts)
theorem X_lookup (tag : Nat) (zero : PV) (ok : Bool) (x y : Opd) : runB P (.op ⟨d, .lookup tag zero ok x y, none, false, []⟩ :: os) st = vK P st d (lookV tag zero ok st.H (x.get P.glob st) (y.get P.glob st)) os := to_v st d none _ os _ (v_lookup st tag zero ok x y)
theorem XG_lookup (tag : Nat) (zero : PV) (ok : Bool) (x y : Opd) : runB P (.op ⟨d, .lookup tag zero ok x y, some (q, w), false, []⟩ :: os) st = vK P st d (gv (wantK (q.get P.glob st) w) (lookV tag zero ok st.H (x.get P.glob st) (y.get P.glob st))) os := to_v st d (some (q, w)) _ os _ (v_lookup st tag zero ok x y)
end
end
end
end Go.Av
end
