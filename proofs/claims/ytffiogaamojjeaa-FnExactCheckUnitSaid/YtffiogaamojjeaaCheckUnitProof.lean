/- CheckUnit of the program answers as the reference for every argument. No condition. -/
import Derived.Test.YtffiogaamojjeaaEp2
import Derived.Test.YtffiogaamojjeaaEp3
import Derived.Test.YtffiogaamojjeaaRows
set_option linter.all false
section
namespace Go.Proofs.Ytffiogaamojjeaa.fnExactCheckUnit
open Go.ChangeShapes Go.WideShapes Go.ChangeAt Go.RowKit Go.Av
set_option linter.unusedVariables false
theorem own : ownKnob Try.prog.godebug = none := by kernel_rfl
def arg : TypeId := 25
noncomputable def argFields : Array Field := match Try.prog.underlying arg with | some (.struct fs) => fs | _ => #[]
theorem arg_struct : Try.prog.underlying arg = some (.struct argFields) := by kernel_rfl
noncomputable def shape : List Sh := (shOf Try.prog 12 arg).get!
theorem shape_is : shOf Try.prog 12 arg = some shape := by kernel_rfl
theorem shape_ok : ∃ n ss, shOf Try.prog n arg = some ss := ⟨12, shape, shape_is⟩
theorem shape_eq : shape = Try.Av.shUnit := by kernel_rfl
theorem law (qs : List PV) (h : OkRow shape qs) : EP Try.Av.A 4 [.agg qs] = some (.bool true) := by
  rw [shape_eq] at h
  obtain ⟨o, rfl, hb, hs⟩ := Try.Av.dec_unit h
  exact Try.Av.el_law (fun fs h1 h2 h3 => Try.Av.ep_implCheckUnit fs h1 h2 h3) o hb hs
theorem walk (w : World) (v : Value) (qs : List PV) (h : OkRow shape qs) (hr : RelF w (Old w) (.agg qs) v) :
    Calls Try.prog 4 #[v] w fun e w' => e = .returned (.bool true) ∧ Grown w w' ∧ ∀ b, b < w.heap.size → w'.heap[b]? = w.heap[b]? := by
  have := EP_calls Try.Av.mixed Try.Av.fits (law qs h) w (Old w) [v] (All2.cons hr All2.nil) (fun _ h => h) (fun g cs h => by cases h)
  refine this.mono ?_
  rintro e w' ⟨cv, rfl, h1, h2, h3, F', _, _, _, h4⟩
  cases h4
  exact ⟨rfl, grown_of h1 h2 h3, h2⟩
set_option maxRecDepth 100000 in
theorem lifted (os : Os) (started : os.Started) (H : Type) (enc : TypeId × Value → H) :
    ReturnsInHanded {} Try.checked os 4 .any (Rows.fnExactCheckUnitSpec.pre6 enc Try.prog Try.f4 Rows.fnExactCheckUnitRow.domain false) (Rows.fnExactCheckUnitSpec.post enc Try.prog Try.f4 false true false false) := by
  refine returnsInHanded_of_change (C := Try.checked) own started (by kernel_rfl) Try.func4
    (ChangeSpec.witness6 (enc := enc) (C := Try.checked) false ⟨#[], #[.agg #[.slice none 0 0]], []⟩ 8 (by kernel_rfl) (by kernel_rfl) (by kernel_rfl) (by kernel_rfl)) ?_
  intro W base args ds gs before hval0 hW hcnd _
  have hval : ∀ (j : Nat) t v, Try.f4.params[j]? = some t → args[j]? = some v → Value.okWide Try.prog W .any base t v := hval0
  have hW' := hW
  obtain ⟨p, q, hA0, hV, rfl, hfz, hnd⟩ := hW
  have hA : DataW.TrodAll enc Try.prog W 0 (fun _ => true) true Try.f4.params.toList args.toList ds p := hA0
  rw [Try.params4] at hA hval
  obtain ⟨v, d, hargs, rfl, hd⟩ : ∃ v d, args.toList = [v] ∧ ds = [d] ∧ DataW.Trod enc Try.prog W 0 (fun _ => true) true arg v d p := by
    revert hA
    generalize args.toList = l
    intro hA
    match l, ds, hA with
    | [v], [d], ⟨p1, q1, h1, h2, h3⟩ =>
      have h2 : q1 = [] := h2
      subst h2
      rw [List.append_nil] at h3
      subst h3
      exact ⟨v, d, rfl, rfl, h1⟩
    | _ :: _ :: _, _ :: _, ⟨_, _, _, h2, _⟩ => exact h2.elim
  have hargs' : args = #[v] := by rw [← Array.toArray_toList (xs := args), hargs]
  subst hargs'
  obtain ⟨rfl, rfl⟩ := trodVars_none hV
  obtain ⟨n, ss, hsh⟩ := shape_ok
  have hok := hval 0 arg v rfl rfl
  obtain ⟨cs, hvc, _⟩ : ∃ cs, v = .agg cs ∧ True := by
    unfold Value.okWide at hok
    rw [arg_struct] at hok
    obtain ⟨cs, h, _⟩ := hok
    exact ⟨cs, h, trivial⟩
  obtain ⟨qs, hq1, hq2⟩ := read_value shape_is hvc hd
  simp only [List.append_nil] at hW'
  refine (walk W v qs hq1 hq2).mono fun e W' ⟨he, hg, hold⟩ => ?_
  subst he
  exact ⟨_, rfl, post_of_same (pa := p) (pv := []) hW' (fun _ _ _ => (trodAll_cons_mk (shut_bool Try.underlying4 _) trodAll_mk0)) (fun sp hsp => allAgain (fun t ht => by
      have : t = arg := by simpa [Try.params4, arg] using ht
      subst this; exact shape_ok) hA0 hold hsp) (fun _ _ => rfl) (by simp)
    (hg.frame _) hg.2.1 (ok_one (by kernel_rfl) rfl (okWide_bool_mk Try.underlying4 _))⟩
theorem over : Rows.fnExactCheckUnitRow.holds Try.pinned (OpenSpec.ofChange Rows.fnExactCheckUnitSpec) :=
  OpenClaim.holds_of_wide 4 Try.f4 rfl rfl rfl rfl rfl rfl rfl ⟨rfl, rfl, rfl, rfl, rfl⟩ rfl rfl rfl rfl rfl (by kernel_rfl) Try.func4 (by kernel_rfl)
    (of_decide_eq_true (by kernel_rfl)) (by unfold Func.isWrapper; first | (rw [if_pos (by decide +kernel)]; kernel_rfl) | (rw [if_neg (by decide +kernel)]; exact ⟨rfl, rfl⟩))
    (fun os started H enc _ => lifted os started H enc)
theorem proved : Rows.FnExactCheckUnitSaid := over
#print axioms proved
end Go.Proofs.Ytffiogaamojjeaa.fnExactCheckUnit
end
