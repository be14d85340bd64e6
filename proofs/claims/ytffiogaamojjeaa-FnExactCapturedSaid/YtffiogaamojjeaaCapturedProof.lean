/- FnExactCaptured gives true for every input and leaves it as it was, no condition. -/
import Derived.Test.YtffiogaamojjeaaCapEp3
import Derived.Test.YtffiogaamojjeaaRows
set_option linter.all false
section
namespace Go.Proofs.Ytffiogaamojjeaa.fnExactCaptured
open Go.ChangeShapes Go.WideShapes Go.ChangeAt Go.RowKit Go.Av
theorem own : ownKnob Try.prog.godebug = none := by kernel_rfl
def arg : TypeId := 25
noncomputable def argFields : Array Field := match Try.prog.underlying arg with | some (.struct fs) => fs | _ => #[]
theorem arg_struct : Try.prog.underlying arg = some (.struct argFields) := by kernel_rfl
noncomputable def shape : List Sh := (shOf Try.prog 12 arg).get!
theorem shape_is : shOf Try.prog 12 arg = some shape := by kernel_rfl
theorem shape_ok : ∃ n ss, shOf Try.prog n arg = some ss := ⟨12, shape, shape_is⟩
theorem u3 : Try.prog.underlying 3 = some (.int .i64) := by kernel_rfl
theorem int_is : shOf Try.prog 12 3 = some [.int .i64] := by kernel_rfl
theorem shape_eq : shape = Try.Av.shUnit := by kernel_rfl
theorem law (qs : List PV) (f : Int) (h : OkRow shape qs) : EP Try.Av.A 5 [.agg qs, .int .i64 f] = some (.bool true) := by
  rw [shape_eq] at h
  obtain ⟨o, rfl, hb, hs⟩ := Try.Av.dec_unit h
  exact Try.Av.el_lawCap o f hb hs
theorem walk (w : World) (v : Value) (f : Int) (qs : List PV) (h : OkRow shape qs) (hr : RelF w (Old w) (.agg qs) v) :
    Calls Try.prog 5 #[v, .int .i64 f] w fun e w' => e = .returned (.bool true) ∧ Grown w w' ∧ ∀ b, b < w.heap.size → w'.heap[b]? = w.heap[b]? := by
  have := EP_calls Try.Av.mixed Try.Av.fits (law qs f h) w (Old w) [v, .int .i64 f] (All2.cons hr (All2.cons (RelF.int ..) All2.nil)) (fun _ h => h) (fun g cs h => by cases h)
  refine this.mono ?_
  rintro e w' ⟨cv, rfl, h1, h2, h3, F', _, _, _, h4⟩
  cases h4
  exact ⟨rfl, grown_of h1 h2 h3, h2⟩
set_option maxRecDepth 100000 in
theorem lifted (os : Os) (started : os.Started) (H : Type) (enc : TypeId × Value → H) :
    ReturnsInHanded {} Try.checked os 5 .any (Rows.fnExactCapturedSpec.pre6 enc Try.prog Try.f5 Rows.fnExactCapturedRow.domain false) (Rows.fnExactCapturedSpec.post enc Try.prog Try.f5 false true false false) := by
  refine returnsInHanded_of_change (C := Try.checked) own started (by kernel_rfl) Try.func5
    (ChangeSpec.witness6 (enc := enc) (C := Try.checked) false ⟨#[], #[.agg #[.slice none 0 0], .int .i64 0], []⟩ 8 (by kernel_rfl) (by kernel_rfl) (by kernel_rfl) (by kernel_rfl)) ?_
  intro W base args ds gs before hval0 hW hcnd _
  have hval : ∀ (j : Nat) t v, Try.f5.params[j]? = some t → args[j]? = some v → Value.okWide Try.prog W .any base t v := hval0
  have hW' := hW
  obtain ⟨p, q, hA0, hV, rfl, hfz, hnd⟩ := hW
  have hA : DataW.TrodAll enc Try.prog W 0 (fun _ => true) true Try.f5.params.toList args.toList ds p := hA0
  rw [Try.params5] at hA hval
  obtain ⟨v, v2, d, d2, p2, p1, hargs, rfl, rfl, hd, hd2⟩ : ∃ v v2 d d2 p2 p1, args.toList = [v, v2] ∧ ds = [d, d2] ∧ p = p1 ++ p2 ∧ DataW.Trod enc Try.prog W 0 (fun _ => true) true arg v d p1 ∧ DataW.Trod enc Try.prog W 0 (fun _ => true) true 3 v2 d2 p2 := by
    revert hA
    generalize args.toList = l
    intro hA
    match l, ds, hA with
    | [v, v2], [d, d2], ⟨p1, q1, h1, ⟨p2, q2, h2, h4, h5⟩, h3⟩ =>
      have h4 : q2 = [] := h4
      subst h4
      rw [List.append_nil] at h5
      subst h5
      exact ⟨v, v2, d, d2, _, _, rfl, rfl, h3, h1, h2⟩
    | [_], [_], ⟨_, _, _, h2, _⟩ => exact h2.elim
    | _ :: _ :: _ :: _, _ :: _ :: _, ⟨_, _, _, ⟨_, _, _, h2, _⟩, _⟩ => exact h2.elim
  have hargs' : args = #[v, v2] := by rw [← Array.toArray_toList (xs := args), hargs]
  subst hargs'
  obtain ⟨rfl, rfl⟩ := trodVars_none hV
  obtain ⟨n, ss, hsh⟩ := shape_ok
  have hok := hval 0 arg v rfl rfl
  obtain ⟨f, rfl, rfl, rfl, hwf⟩ := open_int u3 (hval 1 3 v2 rfl rfl) hd2
  obtain ⟨cs, hvc, _⟩ : ∃ cs, v = .agg cs ∧ True := by
    unfold Value.okWide at hok
    rw [arg_struct] at hok
    obtain ⟨cs, h, _⟩ := hok
    exact ⟨cs, h, trivial⟩
  obtain ⟨qs, hq1, hq2⟩ := read_value shape_is hvc hd
  simp only [List.append_nil] at hW'
  refine (walk W v f qs hq1 hq2).mono fun e W' ⟨he, hg, hold⟩ => ?_
  subst he
  exact ⟨_, rfl, post_of_same (pa := p1 ++ []) (pv := []) hW' (fun _ _ _ => (trodAll_cons_mk (shut_bool Try.underlying4 _) trodAll_mk0)) (fun sp hsp => allAgain (fun t ht => by
      have : t = arg ∨ t = 3 := by simpa [Try.params5, arg] using ht
      rcases this with rfl | rfl
      · exact shape_ok
      · exact ⟨12, _, int_is⟩) hA0 hold (by simpa using hsp)) (fun _ _ => rfl) (by simp)
    (hg.frame _) hg.2.1 (ok_one (by kernel_rfl) rfl (okWide_bool_mk Try.underlying4 _))⟩
theorem over : Rows.fnExactCapturedRow.holds Try.pinned (OpenSpec.ofChange Rows.fnExactCapturedSpec) :=
  OpenClaim.holds_of_wide 5 Try.f5 rfl rfl rfl rfl rfl rfl rfl ⟨rfl, rfl, rfl, rfl, rfl⟩ rfl rfl rfl rfl rfl (by kernel_rfl) Try.func5 (by kernel_rfl)
    (of_decide_eq_true (by kernel_rfl)) (by unfold Func.isWrapper; first | (rw [if_pos (by decide +kernel)]; kernel_rfl) | (rw [if_neg (by decide +kernel)]; exact ⟨rfl, rfl⟩))
    (fun os started H enc _ => lifted os started H enc)
theorem proved : Rows.FnExactCapturedSaid := over
#print axioms proved
end Go.Proofs.Ytffiogaamojjeaa.fnExactCaptured
end
