/- What the functions of CheckShape compute, by the evaluator. No condition. -/
import Derived.Test.YtffiogaamojjeaaDoorAv2
import Derived.Test.YtffiogaamojjeaaDoorEp1
set_option linter.all false
section
attribute [local congr] ite_congr
set_option linter.unusedSimpArgs false
set_option linter.unusedVariables false
set_option maxRecDepth 10000
set_option maxHeartbeats 4000000
namespace Go.Proofs.Tryd.Av
open Go Go.Av Classical
theorem el_eqCodeFault (c f n : Int) : EP A n_laws_eqCodeFault [.agg (flt3 c f n), .agg (flt3 c f n)] = some (.bool true) := by
  simp (maxSteps := 10000000) -implicitDefEqProofs +contextual (disch := omega) only [e_laws_eqCodeFault, u_laws_eqCodeFault, rr_laws_eqCodeFault, ↓XD, XU, refs, goneIn, Nat.beq, Nat.ble, List.isEmpty, ↓reduceIte, sevalprocAttr]
theorem one_read : Ieee.double.read 4607182418800017408 = .number false 4503599627370496 (-52) := by decide
theorem div_one (x : Nat) (h : FloatKind.f64.format.order x 0 = some .eq) : ∃ r, FloatKind.f64.format.div 4607182418800017408 x = some r := by
  have h' : (Ieee.double.read x).order (Ieee.double.read 0) = some .eq := h
  show ∃ r, (Ieee.Datum.quotient (Ieee.double.fractionBits + 2) (Ieee.double.read 4607182418800017408) (Ieee.double.read x)).map Ieee.double.write = some r
  rw [one_read]
  cases hx : Ieee.double.read x with
  | nan s n => rw [hx] at h'; cases h'
  | infinity s => exact ⟨_, rfl⟩
  | number s m i =>
    simp only [Ieee.Datum.quotient]
    split
    · exact ⟨_, rfl⟩
    · exact ⟨_, rfl⟩
theorem bin_fquo (k : FloatKind) (x y r : Nat) (h : k.format.div x y = some r) : Av.bin .quo (.flt k x) (.flt k y) = some (.flt k r) := by simp [Av.bin, binFlt, h]
theorem el_sameFloat (x : Nat) : EP A n_laws_sameFloat [.flt .f64 x, .flt .f64 x] = some (.bool true) := by
  by_cases h0 : FloatKind.f64.format.order x x = some .eq
  · by_cases h : FloatKind.f64.format.order x 0 = some .eq
    · obtain ⟨r, hr⟩ := div_one x h
      have hq := bin_fquo .f64 4607182418800017408 x r hr
      simp (maxSteps := 10000000) -implicitDefEqProofs +contextual (disch := omega) only [e_laws_sameFloat, u_laws_sameFloat, rr_laws_sameFloat, ↓XD, XU, refs, goneIn, Nat.beq, Nat.ble, List.isEmpty, ↓reduceIte, sevalprocAttr, h0, h, hq]
    · simp (maxSteps := 10000000) -implicitDefEqProofs +contextual (disch := omega) only [e_laws_sameFloat, u_laws_sameFloat, rr_laws_sameFloat, ↓XD, XU, refs, goneIn, Nat.beq, Nat.ble, List.isEmpty, ↓reduceIte, sevalprocAttr, h0, h]
  · simp (maxSteps := 10000000) -implicitDefEqProofs +contextual (disch := omega) only [e_laws_sameFloat, u_laws_sameFloat, rr_laws_sameFloat, ↓XD, XU, refs, goneIn, Nat.beq, Nat.ble, List.isEmpty, ↓reduceIte, sevalprocAttr, h0]
theorem el_eqUp (u : Up) : EP A n_laws_eqUp [.agg u.cells, .agg u.cells] = some (.bool true) := by
  simp (maxSteps := 10000000) -implicitDefEqProofs +contextual (disch := omega) only [e_laws_eqUp, u_laws_eqUp, rr_laws_eqUp, Up.cells, ↓XD, XU, refs, goneIn, Nat.beq, Nat.ble, List.isEmpty, ↓reduceIte, sevalprocAttr]
theorem lq_eqUp (l : List Up) (hb : l.length ≤ 1048576) (a0 : Unit) (hok0 : True) : EV A (.loop (B_laws_eqUpS 0)) (⟨[(0, .fz (l.map Up.cells)), (1, .fz (l.map Up.cells)), (4, .bool false), (5, .int .i64 (0))], [], [], []⟩ : St) = some (AExit.exit 0, (⟨[(0, .fz (l.map Up.cells)), (1, .fz (l.map Up.cells)), (4, .bool false), (5, .int .i64 (l.length))], [], [], []⟩ : St)) ∧ True := by
  refine loop_iter (fun i (a : Unit) => (⟨[(0, .fz (l.map Up.cells)), (1, .fz (l.map Up.cells)), (4, .bool false), (5, .int .i64 i)], [], [], []⟩ : St)) (fun (i : Int) (a : Unit) => a) (fun i (a : Unit) => True) (fun a => (AExit.exit 0, (⟨[(0, .fz (l.map Up.cells)), (1, .fz (l.map Up.cells)), (4, .bool false), (5, .int .i64 (l.length))], [], [], []⟩ : St))) (0) (l.length) ?_ ?_ (0) a0 (by omega) (by omega) hok0
  · intro i a hi hn hok
    have hg := el_eqUp (nth l i); simp only [Up.cells] at hg
    refine ⟨⟨_, by simp (maxSteps := 10000000) -implicitDefEqProofs +contextual (disch := omega) only [ub_laws_eqUpS_0, rr_laws_eqUpS, ↓XD, XU, refs, goneIn, Nat.beq, Nat.ble, List.isEmpty, ↓reduceIte, sevalprocAttr, Up.cells, hg, hn, hok]; rfl, by first | (simp [St.next, trim_all]; done) | (simp [St.next, trim_all]; omega) | (simp [St.next, trim, bare, refsL, refs]; done)⟩, by trivial⟩
  · rintro i a hi rfl hok
    refine ⟨by simp (maxSteps := 10000000) -implicitDefEqProofs +contextual (disch := omega) only [ub_laws_eqUpS_0, rr_laws_eqUpS, ↓XD, XU, refs, goneIn, Nat.beq, Nat.ble, List.isEmpty, ↓reduceIte, sevalprocAttr, Up.cells, Int.lt_irrefl, hok], by simp⟩
theorem el_eqUpS (l : List Up) (hb : l.length ≤ 1048576) : EP A n_laws_eqUpS [.fz (l.map Up.cells), .fz (l.map Up.cells)] = some (.bool true) := by
  have hl := (lq_eqUp l hb () trivial).1
  simp (maxSteps := 10000000) -implicitDefEqProofs +contextual (disch := omega) only [e_laws_eqUpS, u_laws_eqUpS, rr_laws_eqUpS, ↓XD, XU, refs, goneIn, Nat.beq, Nat.ble, List.isEmpty, ↓reduceIte, sevalprocAttr, hl]
theorem el_eqValue (u : Val) : EP A n_laws_eqValue [.agg u.cells, .agg u.cells] = some (.bool true) := by
  simp (maxSteps := 10000000) -implicitDefEqProofs +contextual (disch := omega) only [e_laws_eqValue, u_laws_eqValue, rr_laws_eqValue, Val.cells, ↓XD, XU, refs, goneIn, Nat.beq, Nat.ble, List.isEmpty, ↓reduceIte, sevalprocAttr, el_sameFloat]
theorem lq_eqValue (l : List Val) (hb : l.length ≤ 1048576) (a0 : Unit) (hok0 : True) : EV A (.loop (B_laws_eqValueS 0)) (⟨[(0, .fz (l.map Val.cells)), (1, .fz (l.map Val.cells)), (4, .bool false), (5, .int .i64 (0))], [], [], []⟩ : St) = some (AExit.exit 0, (⟨[(0, .fz (l.map Val.cells)), (1, .fz (l.map Val.cells)), (4, .bool false), (5, .int .i64 (l.length))], [], [], []⟩ : St)) ∧ True := by
  refine loop_iter (fun i (a : Unit) => (⟨[(0, .fz (l.map Val.cells)), (1, .fz (l.map Val.cells)), (4, .bool false), (5, .int .i64 i)], [], [], []⟩ : St)) (fun (i : Int) (a : Unit) => a) (fun i (a : Unit) => True) (fun a => (AExit.exit 0, (⟨[(0, .fz (l.map Val.cells)), (1, .fz (l.map Val.cells)), (4, .bool false), (5, .int .i64 (l.length))], [], [], []⟩ : St))) (0) (l.length) ?_ ?_ (0) a0 (by omega) (by omega) hok0
  · intro i a hi hn hok
    have hg := el_eqValue (nth l i); simp only [Val.cells] at hg
    refine ⟨⟨_, by simp (maxSteps := 10000000) -implicitDefEqProofs +contextual (disch := omega) only [ub_laws_eqValueS_0, rr_laws_eqValueS, ↓XD, XU, refs, goneIn, Nat.beq, Nat.ble, List.isEmpty, ↓reduceIte, sevalprocAttr, Val.cells, hg, hn, hok]; rfl, by first | (simp [St.next, trim_all]; done) | (simp [St.next, trim_all]; omega) | (simp [St.next, trim, bare, refsL, refs]; done)⟩, by trivial⟩
  · rintro i a hi rfl hok
    refine ⟨by simp (maxSteps := 10000000) -implicitDefEqProofs +contextual (disch := omega) only [ub_laws_eqValueS_0, rr_laws_eqValueS, ↓XD, XU, refs, goneIn, Nat.beq, Nat.ble, List.isEmpty, ↓reduceIte, sevalprocAttr, Val.cells, Int.lt_irrefl, hok], by simp⟩
theorem el_eqValueS (l : List Val) (hb : l.length ≤ 1048576) : EP A n_laws_eqValueS [.fz (l.map Val.cells), .fz (l.map Val.cells)] = some (.bool true) := by
  have hl := (lq_eqValue l hb () trivial).1
  simp (maxSteps := 10000000) -implicitDefEqProofs +contextual (disch := omega) only [e_laws_eqValueS, u_laws_eqValueS, rr_laws_eqValueS, ↓XD, XU, refs, goneIn, Nat.beq, Nat.ble, List.isEmpty, ↓reduceIte, sevalprocAttr, hl]
theorem el_eqIns (u : Ins) : EP A n_laws_eqIns [.agg u.cells, .agg u.cells] = some (.bool true) := by
  simp (maxSteps := 10000000) -implicitDefEqProofs +contextual (disch := omega) only [e_laws_eqIns, u_laws_eqIns, rr_laws_eqIns, Ins.cells, ↓XD, XU, refs, goneIn, Nat.beq, Nat.ble, List.isEmpty, ↓reduceIte, sevalprocAttr]
theorem lq_eqIns (l : List Ins) (hb : l.length ≤ 1048576) (a0 : Unit) (hok0 : True) : EV A (.loop (B_laws_eqInsS 0)) (⟨[(0, .fz (l.map Ins.cells)), (1, .fz (l.map Ins.cells)), (4, .bool false), (5, .int .i64 (0))], [], [], []⟩ : St) = some (AExit.exit 0, (⟨[(0, .fz (l.map Ins.cells)), (1, .fz (l.map Ins.cells)), (4, .bool false), (5, .int .i64 (l.length))], [], [], []⟩ : St)) ∧ True := by
  refine loop_iter (fun i (a : Unit) => (⟨[(0, .fz (l.map Ins.cells)), (1, .fz (l.map Ins.cells)), (4, .bool false), (5, .int .i64 i)], [], [], []⟩ : St)) (fun (i : Int) (a : Unit) => a) (fun i (a : Unit) => True) (fun a => (AExit.exit 0, (⟨[(0, .fz (l.map Ins.cells)), (1, .fz (l.map Ins.cells)), (4, .bool false), (5, .int .i64 (l.length))], [], [], []⟩ : St))) (0) (l.length) ?_ ?_ (0) a0 (by omega) (by omega) hok0
  · intro i a hi hn hok
    have hg := el_eqIns (nth l i); simp only [Ins.cells] at hg
    refine ⟨⟨_, by simp (maxSteps := 10000000) -implicitDefEqProofs +contextual (disch := omega) only [ub_laws_eqInsS_0, rr_laws_eqInsS, ↓XD, XU, refs, goneIn, Nat.beq, Nat.ble, List.isEmpty, ↓reduceIte, sevalprocAttr, Ins.cells, hg, hn, hok]; rfl, by first | (simp [St.next, trim_all]; done) | (simp [St.next, trim_all]; omega) | (simp [St.next, trim, bare, refsL, refs]; done)⟩, by trivial⟩
  · rintro i a hi rfl hok
    refine ⟨by simp (maxSteps := 10000000) -implicitDefEqProofs +contextual (disch := omega) only [ub_laws_eqInsS_0, rr_laws_eqInsS, ↓XD, XU, refs, goneIn, Nat.beq, Nat.ble, List.isEmpty, ↓reduceIte, sevalprocAttr, Ins.cells, Int.lt_irrefl, hok], by simp⟩
theorem el_eqInsS (l : List Ins) (hb : l.length ≤ 1048576) : EP A n_laws_eqInsS [.fz (l.map Ins.cells), .fz (l.map Ins.cells)] = some (.bool true) := by
  have hl := (lq_eqIns l hb () trivial).1
  simp (maxSteps := 10000000) -implicitDefEqProofs +contextual (disch := omega) only [e_laws_eqInsS, u_laws_eqInsS, rr_laws_eqInsS, ↓XD, XU, refs, goneIn, Nat.beq, Nat.ble, List.isEmpty, ↓reduceIte, sevalprocAttr, hl]
theorem el_eqNamed (u : Nmd) : EP A n_laws_eqNamed [.agg u.cells, .agg u.cells] = some (.bool true) := by
  simp (maxSteps := 10000000) -implicitDefEqProofs +contextual (disch := omega) only [e_laws_eqNamed, u_laws_eqNamed, rr_laws_eqNamed, Nmd.cells, ↓XD, XU, refs, goneIn, Nat.beq, Nat.ble, List.isEmpty, ↓reduceIte, sevalprocAttr]
theorem lq_eqNamed (l : List Nmd) (hb : l.length ≤ 1048576) (a0 : Unit) (hok0 : True) : EV A (.loop (B_laws_eqNamedS 0)) (⟨[(0, .fz (l.map Nmd.cells)), (1, .fz (l.map Nmd.cells)), (4, .bool false), (5, .int .i64 (0))], [], [], []⟩ : St) = some (AExit.exit 0, (⟨[(0, .fz (l.map Nmd.cells)), (1, .fz (l.map Nmd.cells)), (4, .bool false), (5, .int .i64 (l.length))], [], [], []⟩ : St)) ∧ True := by
  refine loop_iter (fun i (a : Unit) => (⟨[(0, .fz (l.map Nmd.cells)), (1, .fz (l.map Nmd.cells)), (4, .bool false), (5, .int .i64 i)], [], [], []⟩ : St)) (fun (i : Int) (a : Unit) => a) (fun i (a : Unit) => True) (fun a => (AExit.exit 0, (⟨[(0, .fz (l.map Nmd.cells)), (1, .fz (l.map Nmd.cells)), (4, .bool false), (5, .int .i64 (l.length))], [], [], []⟩ : St))) (0) (l.length) ?_ ?_ (0) a0 (by omega) (by omega) hok0
  · intro i a hi hn hok
    have hg := el_eqNamed (nth l i); simp only [Nmd.cells] at hg
    refine ⟨⟨_, by simp (maxSteps := 10000000) -implicitDefEqProofs +contextual (disch := omega) only [ub_laws_eqNamedS_0, rr_laws_eqNamedS, ↓XD, XU, refs, goneIn, Nat.beq, Nat.ble, List.isEmpty, ↓reduceIte, sevalprocAttr, Nmd.cells, hg, hn, hok]; rfl, by first | (simp [St.next, trim_all]; done) | (simp [St.next, trim_all]; omega) | (simp [St.next, trim, bare, refsL, refs]; done)⟩, by trivial⟩
  · rintro i a hi rfl hok
    refine ⟨by simp (maxSteps := 10000000) -implicitDefEqProofs +contextual (disch := omega) only [ub_laws_eqNamedS_0, rr_laws_eqNamedS, ↓XD, XU, refs, goneIn, Nat.beq, Nat.ble, List.isEmpty, ↓reduceIte, sevalprocAttr, Nmd.cells, Int.lt_irrefl, hok], by simp⟩
theorem el_eqNamedS (l : List Nmd) (hb : l.length ≤ 1048576) : EP A n_laws_eqNamedS [.fz (l.map Nmd.cells), .fz (l.map Nmd.cells)] = some (.bool true) := by
  have hl := (lq_eqNamed l hb () trivial).1
  simp (maxSteps := 10000000) -implicitDefEqProofs +contextual (disch := omega) only [e_laws_eqNamedS, u_laws_eqNamedS, rr_laws_eqNamedS, ↓XD, XU, refs, goneIn, Nat.beq, Nat.ble, List.isEmpty, ↓reduceIte, sevalprocAttr, hl]
theorem el_eqProto (f : Proto) (h : SizeP f) : EP A n_laws_eqProto [.agg f.cells, .agg f.cells] = some (.bool true) := by
  have g1 := el_eqUpS f.Ups h.u
  have g2 := el_eqValueS f.Consts h.c
  have g3 := el_eqInsS f.Ins h.i
  have g4 := el_eqNamedS f.Named h.n
  simp (maxSteps := 10000000) -implicitDefEqProofs +contextual (disch := omega) only [e_laws_eqProto, u_laws_eqProto, rr_laws_eqProto, Proto.cells, ups, vals, inss, nmds, ↓XD, XU, refs, goneIn, Nat.beq, Nat.ble, List.isEmpty, ↓reduceIte, sevalprocAttr, g1, g2, g3, g4]
theorem lq_Proto (l : List Proto) (hb : l.length ≤ 1048576) (hs : SizedP l) (a0 : Unit) (hok0 : True) : EV A (.loop (B_laws_eqProtoS 0)) (⟨[(0, .fz (l.map Proto.cells)), (1, .fz (l.map Proto.cells)), (4, .bool false), (5, .int .i64 (0))], [], [], []⟩ : St) = some (AExit.exit 0, (⟨[(0, .fz (l.map Proto.cells)), (1, .fz (l.map Proto.cells)), (4, .bool false), (5, .int .i64 (l.length))], [], [], []⟩ : St)) ∧ True := by
  refine loop_iter (fun i (a : Unit) => (⟨[(0, .fz (l.map Proto.cells)), (1, .fz (l.map Proto.cells)), (4, .bool false), (5, .int .i64 i)], [], [], []⟩ : St)) (fun (i : Int) (a : Unit) => a) (fun i (a : Unit) => True) (fun a => (AExit.exit 0, (⟨[(0, .fz (l.map Proto.cells)), (1, .fz (l.map Proto.cells)), (4, .bool false), (5, .int .i64 (l.length))], [], [], []⟩ : St))) (0) (l.length) ?_ ?_ (0) a0 (by omega) (by omega) hok0
  · intro i a hi hn hok
    have hg := el_eqProto (nth l i) (hs i); simp only [Proto.cells, ups, vals, inss, nmds] at hg
    refine ⟨⟨_, by simp (maxSteps := 10000000) -implicitDefEqProofs +contextual (disch := omega) only [ub_laws_eqProtoS_0, rr_laws_eqProtoS, ↓XD, XU, refs, goneIn, Nat.beq, Nat.ble, List.isEmpty, ↓reduceIte, sevalprocAttr, Proto.cells, ups, vals, inss, nmds, hg, hn, hok]; rfl, by first | (simp [St.next, trim_all]; done) | (simp [St.next, trim_all]; omega) | (simp [St.next, trim, bare, refsL, refs]; done)⟩, by trivial⟩
  · rintro i a hi rfl hok
    refine ⟨by simp (maxSteps := 10000000) -implicitDefEqProofs +contextual (disch := omega) only [ub_laws_eqProtoS_0, rr_laws_eqProtoS, ↓XD, XU, refs, goneIn, Nat.beq, Nat.ble, List.isEmpty, ↓reduceIte, sevalprocAttr, Proto.cells, ups, vals, inss, nmds, Int.lt_irrefl, hok], by simp⟩
theorem el_eqProtoS (l : List Proto) (hb : l.length ≤ 1048576) (hs : SizedP l) : EP A n_laws_eqProtoS [protos l, protos l] = some (.bool true) := by
  have hl := (lq_Proto l hb hs () trivial).1
  simp (maxSteps := 10000000) -implicitDefEqProofs +contextual (disch := omega) only [e_laws_eqProtoS, u_laws_eqProtoS, rr_laws_eqProtoS, protos, ↓XD, XU, refs, goneIn, Nat.beq, Nat.ble, List.isEmpty, ↓reduceIte, sevalprocAttr, hl]
theorem el_eqCode (l : List Proto) (hb : l.length ≤ 1048576) (hs : SizedP l) : EP A n_laws_eqCode [code l, code l] = some (.bool true) := by
  have g := el_eqProtoS l hb hs
  simp only [protos] at g
  simp (maxSteps := 10000000) -implicitDefEqProofs +contextual (disch := omega) only [e_laws_eqCode, u_laws_eqCode, rr_laws_eqCode, code, protos, ↓XD, XU, refs, goneIn, Nat.beq, Nat.ble, List.isEmpty, ↓reduceIte, sevalprocAttr, g]
end Go.Proofs.Tryd.Av
end
section
attribute [local congr] ite_congr
set_option linter.unusedSimpArgs false
set_option linter.unusedVariables false
set_option maxRecDepth 10000
set_option maxHeartbeats 4000000
namespace Go.Proofs.Tryd.Av
open Go Go.Av Classical
theorem sumTo_congr {c d : Int → Int} : ∀ (m : Nat) (i : Int), (∀ k, i ≤ k → c k = d k) → sumTo c m i = sumTo d m i
  | 0, _, _ => rfl
  | m + 1, i, h => by rw [sumTo, sumTo, h i (Int.le_refl _), sumTo_congr m (i + 1) (fun k hk => h k (by omega))]
theorem sumTo_shift (c : Int → Int) : ∀ (m : Nat) (i : Int), sumTo c m (i + 1) = sumTo (fun k => c (k + 1)) m i
  | 0, _ => rfl
  | m + 1, i => by rw [sumTo, sumTo, sumTo_shift c m (i + 1)]
theorem nth_cons {α : Type} [Inhabited α] (x : α) (l : List α) {k : Int} (h : 0 ≤ k) : nth (x :: l) (k + 1) = nth l k := by
  simp [nth, List.getD, show (k + 1).toNat = k.toNat + 1 by omega]
theorem sum_le {α : Type} [Inhabited α] (g : α → Nat) (c : α → Int) (h : ∀ x, (g x : Int) ≤ c x) : ∀ l : List α, (((l.map g).sum : Nat) : Int) ≤ sumTo (fun k => c (nth l k)) l.length 0
  | [] => by simp [sumTo]
  | x :: l => by
    have ih := sum_le g c h l
    have hx := h x
    rw [List.map_cons, List.sum_cons, List.length_cons, sumTo, sumTo_shift]
    rw [sumTo_congr (d := fun k => c (nth l k)) l.length 0 (fun k hk => by rw [nth_cons x l hk])]
    have : nth (x :: l) 0 = x := rfl
    rw [this]
    omega
theorem le_sum {c : Int → Int} (hc : ∀ i, 0 ≤ c i) : ∀ (m : Nat) (i j : Int), i ≤ j → j < i + m → c j ≤ sumTo c m i
  | 0, i, j, h1, h2 => by omega
  | m + 1, i, j, h1, h2 => by
    have := hc i
    have h3 := sumTo_nonneg hc m (i + 1)
    rw [sumTo]
    by_cases h : i = j
    · subst h; omega
    · have := le_sum hc m (i + 1) j (by omega) (by omega); omega
theorem nth_map {α β : Type} [Inhabited α] [Inhabited β] (f : α → β) (l : List α) {i : Int} (h0 : 0 ≤ i) (h1 : i < l.length) : nth (l.map f) i = f (nth l i) := by
  rw [nth_get h0 h1, nth_get h0 (by simpa using h1)]; simp
theorem nth_def {α : Type} [Inhabited α] {l : List α} {i : Int} (h : ¬(0 ≤ i ∧ i < l.length)) : nth l i = default ∨ (¬0 ≤ i ∧ nth l i = nth l 0) := by
  by_cases h0 : 0 ≤ i
  · left; exact nth_out h0 (by omega)
  · right; exact ⟨h0, by simp [nth, show i.toNat = 0 by omega]⟩
theorem all_nth {α : Type} [Inhabited α] {l : List α} {p : α → Prop} (hd : p default) (h : ∀ i : Int, 0 ≤ i → i < l.length → p (nth l i)) (i : Int) : p (nth l i) := by
  by_cases hi : 0 ≤ i ∧ i < l.length
  · exact h i hi.1 hi.2
  · rcases nth_def hi with e | ⟨h0, e⟩
    · rw [e]; exact hd
    · rw [e]
      by_cases hl : (0 : Int) < l.length
      · exact h 0 (by omega) hl
      · rw [nth_out (by omega) (by omega)]; exact hd
theorem szProto_s {f : RProto} (h : szProto f ≤ 1048576) : ProtoS f := by
  have h1 := szVals_nonneg (ol f.Consts)
  have h2 := szNmds_nonneg (ol f.Named)
  simp only [szProto] at h
  exact ⟨by omega, by omega, by omega, by omega⟩
theorem szProtos_s {l : List RProto} (h : szProtos l ≤ 1048576) (i : Int) : ProtoS (nth l i) := by
  refine all_nth (p := ProtoS) ⟨by decide, by decide, by decide, by decide⟩ (fun i h0 h1 => szProto_s ?_) i
  have := le_sum (c := fun k => szProto (nth l k)) (fun k => szProto_nonneg _) l.length 0 i h0 (by omega)
  simp only [szProtos] at h
  try dsimp only at this
  omega
theorem szProtos_len {l : List RProto} (h : szProtos l ≤ 1048576) : l.length ≤ 1048576 ∧ total (l.map RProto.to) ≤ 1048576 := by
  have h1 := sumTo_nonneg (c := fun k => szProto (nth l k)) (fun k => szProto_nonneg _) l.length 0
  have h2 := sum_le (fun f : RProto => (ol f.Ins).length) szProto (fun f => by
    have := szVals_nonneg (ol f.Consts); have := szNmds_nonneg (ol f.Named)
    simp only [szProto]; omega) l
  simp only [szProtos] at h
  refine ⟨by omega, ?_⟩
  rw [total, List.map_map]
  have e : (l.map ((fun f : Proto => f.Ins.length) ∘ RProto.to)) = l.map fun f : RProto => (ol f.Ins).length := List.map_congr_left fun f _ => by simp [RProto.to]
  rw [e]
  omega
structure ProtoG (q : RProto) : Prop where
  f : ∀ k : Int, (nth (ol q.Consts) k).Flt < 2 ^ 64
  x : ∀ k j : Int, -9223372036854775808 ≤ nth [(nth (ol q.Ins) k).A, (nth (ol q.Ins) k).B, (nth (ol q.Ins) k).C, (nth (ol q.Ins) k).D] j ∧ nth [(nth (ol q.Ins) k).A, (nth (ol q.Ins) k).B, (nth (ol q.Ins) k).C, (nth (ol q.Ins) k).D] j < 9223372036854775808
theorem nth_nil {α : Type} [Inhabited α] (k : Int) : nth ([] : List α) k = default := by simp [nth, List.getD]
theorem sizedP_to {l : List RProto} (h : szProtos l ≤ 1048576) (hg : ∀ i : Int, ProtoG (nth l i)) : SizedP (l.map RProto.to) := by
  intro j
  refine all_nth (l := l.map RProto.to) (p := SizeP) ⟨by decide, by decide, by decide, by decide, fun k => ?_, fun k j => ?_⟩ (fun i h0 h1 => ?_) j
  · rw [show (default : Proto).Consts = [] from rfl, nth_nil]; decide
  · rw [show (default : Proto).Ins = [] from rfl, nth_nil]
    exact all_nth (l := [(default : Ins).A, (default : Ins).B, (default : Ins).C, (default : Ins).D]) (p := fun x : Int => -9223372036854775808 ≤ x ∧ x < 9223372036854775808) (by decide) (fun i i0 i1 => by
      have : i = 0 ∨ i = 1 ∨ i = 2 ∨ i = 3 := by simp at i1; omega
      rcases this with rfl | rfl | rfl | rfl <;> decide) j
  rw [List.length_map] at h1
  rw [nth_map RProto.to l h0 h1]
  have hs := szProtos_s h i
  exact ⟨by simpa [RProto.to] using hs.u, by simpa [RProto.to] using hs.c, by simpa [RProto.to] using hs.i, by simpa [RProto.to] using hs.n, (hg i).f, (hg i).x⟩
end Go.Proofs.Tryd.Av
end
section
set_option linter.unusedSimpArgs false
set_option linter.unusedVariables false
namespace Go.Proofs.Tryd.Av
open Go Go.Av Classical
theorem okRow_cons {s : Sh} {ss : List Sh} {r : List PV} (h : OkRow (s :: ss) r) : ∃ p ps, r = p :: ps ∧ Ok s p ∧ OkRow ss ps := by
  obtain ⟨h1, h2⟩ := h
  cases r with
  | nil => simp at h1
  | cons p ps => exact ⟨p, ps, rfl, h2 0 s p rfl rfl, by simpa using h1, fun i s' p' e1 e2 => h2 (i + 1) s' p' e1 e2⟩
theorem okRow_nil {r : List PV} (h : OkRow [] r) : r = [] := List.length_eq_zero_iff.1 h.1
theorem dec_slice {α : Type} (f : α → List PV) (good : α → Prop) (es : List Sh) (h : ∀ r, OkRow es r → ∃ x, r = f x ∧ good x) {p : PV} (hp : Ok (.slice es) p) : ∃ o : Option (List α), p = osl f o ∧ (ol o).length ≤ 9223372036854775807 ∧ ∀ x ∈ ol o, good x := by
  cases hp with
  | nils => exact ⟨none, rfl, by simp, by simp⟩
  | fz _ rows hl hs hk =>
    have hm : (maxLen : Nat) = 9223372036854775807 := by decide
    have : ∀ rows : List (List PV), (∀ r ∈ rows, OkRow es r) → ∃ l : List α, rows = l.map f ∧ ∀ x ∈ l, good x := by
      intro rows
      induction rows with
      | nil => exact fun _ => ⟨[], rfl, by simp⟩
      | cons r rows ih =>
        intro hr
        obtain ⟨l, e, hg⟩ := ih fun r hr' => hr r (List.mem_cons_of_mem _ hr')
        obtain ⟨x, e2, hx⟩ := h r (hr r (List.mem_cons_self ..))
        exact ⟨x :: l, by rw [List.map_cons, e, e2], by simpa using ⟨hx, hg⟩⟩
    obtain ⟨l, e, hg⟩ := this rows fun r hr => ⟨hs r hr, hk r hr⟩
    refine ⟨some l, by rw [e]; rfl, ?_, hg⟩
    have : rows.length = l.length := by rw [e, List.length_map]
    show l.length ≤ _
    omega
theorem dec_int {p : PV} (h : Ok (.int .i64) p) : ∃ n, p = .int .i64 n ∧ -9223372036854775808 ≤ n ∧ n < 9223372036854775808 := by
  cases h with
  | int k n h =>
    refine ⟨n, rfl, ?_⟩
    simp only [Lit.wf, Bool.and_eq_true, decide_eq_true_eq] at h
    have h1 : IntKind.i64.min = -9223372036854775808 := by decide
    have h2 : IntKind.i64.max = 9223372036854775807 := by decide
    omega
theorem dec_bool {p : PV} (h : Ok .bool p) : ∃ n, p = .bool n := by cases h; exact ⟨_, rfl⟩
theorem dec_flt {p : PV} (h : Ok (.flt .f64) p) : ∃ n, p = .flt .f64 n ∧ n < 2 ^ 64 := by
  cases h with
  | flt k n h => exact ⟨n, rfl, by simpa [Lit.wf] using h⟩
theorem dec_str {p : PV} (h : Ok .str p) : ∃ s : ByteArray, p = .str s ∧ s.size ≤ 9223372036854775807 := by
  cases h with
  | str s h => exact ⟨s, rfl, h⟩
theorem dec_ups {p : PV} (h : Ok (.slice [.bool, .int .i64]) p) : ∃ o : Option (List Up), p = osl Up.cells o ∧ (ol o).length ≤ 9223372036854775807 := by
  obtain ⟨o, e, hl, _⟩ := dec_slice Up.cells (fun _ => True) _ (fun r hr => by
    obtain ⟨a, _, rfl, ha, k1⟩ := okRow_cons hr
    obtain ⟨b, _, rfl, hb, k2⟩ := okRow_cons k1
    obtain ⟨x, rfl⟩ := dec_bool ha
    obtain ⟨y, rfl, _⟩ := dec_int hb
    rw [okRow_nil k2]; exact ⟨⟨x, y⟩, rfl, trivial⟩) h
  exact ⟨o, e, hl⟩
def shVal : List Sh := [.int .i64, .int .i64, .flt .f64, .str, .int .i64]
def shIns : List Sh := [.int .i64, .int .i64, .int .i64, .int .i64, .int .i64]
def shNmd : List Sh := [.str, .int .i64, .int .i64, .int .i64]
def shProto : List Sh := [.str, .int .i64, .int .i64, .bool, .int .i64, .slice [.bool, .int .i64], .slice shVal, .slice shIns, .slice shNmd]
def shCode : List Sh := [.slice shProto]
theorem dec_val {r : List PV} (hr : OkRow shVal r) : ∃ n : Val, r = n.cells ∧ n.Str.size ≤ 9223372036854775807 ∧ n.Flt < 2 ^ 64 := by
  obtain ⟨a1, _, rfl, h1, k1⟩ := okRow_cons hr
  obtain ⟨a2, _, rfl, h2, k2⟩ := okRow_cons k1
  obtain ⟨a3, _, rfl, h3, k3⟩ := okRow_cons k2
  obtain ⟨a4, _, rfl, h4, k4⟩ := okRow_cons k3
  obtain ⟨a5, _, rfl, h5, k5⟩ := okRow_cons k4
  obtain ⟨x1, rfl, _⟩ := dec_int h1
  obtain ⟨x2, rfl, _⟩ := dec_int h2
  obtain ⟨x3, rfl, b3⟩ := dec_flt h3
  obtain ⟨x4, rfl, b4⟩ := dec_str h4
  obtain ⟨x5, rfl, _⟩ := dec_int h5
  rw [okRow_nil k5]
  exact ⟨⟨x1, x2, x3, x4, x5⟩, rfl, b4, b3⟩
def InsG (n : Ins) : Prop := ∀ j : Int, -9223372036854775808 ≤ nth [n.A, n.B, n.C, n.D] j ∧ nth [n.A, n.B, n.C, n.D] j < 9223372036854775808
theorem insG_of {o a b c d : Int} (h1 : -9223372036854775808 ≤ a ∧ a < 9223372036854775808) (h2 : -9223372036854775808 ≤ b ∧ b < 9223372036854775808) (h3 : -9223372036854775808 ≤ c ∧ c < 9223372036854775808) (h4 : -9223372036854775808 ≤ d ∧ d < 9223372036854775808) : InsG ⟨o, a, b, c, d⟩ := fun j =>
  all_nth (l := [a, b, c, d]) (p := fun x : Int => -9223372036854775808 ≤ x ∧ x < 9223372036854775808) (by decide) (fun i i0 i1 => by
    have : i = 0 ∨ i = 1 ∨ i = 2 ∨ i = 3 := by simp at i1; omega
    rcases this with rfl | rfl | rfl | rfl
    · exact h1
    · exact h2
    · exact h3
    · exact h4) j
theorem dec_ins {r : List PV} (hr : OkRow shIns r) : ∃ n : Ins, r = n.cells ∧ InsG n := by
  obtain ⟨a1, _, rfl, h1, k1⟩ := okRow_cons hr
  obtain ⟨a2, _, rfl, h2, k2⟩ := okRow_cons k1
  obtain ⟨a3, _, rfl, h3, k3⟩ := okRow_cons k2
  obtain ⟨a4, _, rfl, h4, k4⟩ := okRow_cons k3
  obtain ⟨a5, _, rfl, h5, k5⟩ := okRow_cons k4
  obtain ⟨x1, rfl, _⟩ := dec_int h1
  obtain ⟨x2, rfl, b2⟩ := dec_int h2
  obtain ⟨x3, rfl, b3⟩ := dec_int h3
  obtain ⟨x4, rfl, b4⟩ := dec_int h4
  obtain ⟨x5, rfl, b5⟩ := dec_int h5
  rw [okRow_nil k5]
  exact ⟨⟨x1, x2, x3, x4, x5⟩, rfl, insG_of b2 b3 b4 b5⟩
theorem dec_nmd {r : List PV} (hr : OkRow shNmd r) : ∃ n : Nmd, r = n.cells ∧ n.Name.size ≤ 9223372036854775807 := by
  obtain ⟨a1, _, rfl, h1, k1⟩ := okRow_cons hr
  obtain ⟨a2, _, rfl, h2, k2⟩ := okRow_cons k1
  obtain ⟨a3, _, rfl, h3, k3⟩ := okRow_cons k2
  obtain ⟨a4, _, rfl, h4, k4⟩ := okRow_cons k3
  obtain ⟨x1, rfl, b1⟩ := dec_str h1
  obtain ⟨x2, rfl, _⟩ := dec_int h2
  obtain ⟨x3, rfl, _⟩ := dec_int h3
  obtain ⟨x4, rfl, _⟩ := dec_int h4
  rw [okRow_nil k4]
  exact ⟨⟨x1, x2, x3, x4⟩, rfl, b1⟩
theorem insG_def : InsG default := insG_of (by decide) (by decide) (by decide) (by decide)
theorem dec_proto {r : List PV} (hr : OkRow shProto r) : ∃ f : RProto, r = f.cells ∧ ProtoB f ∧ ProtoG f := by
  obtain ⟨a1, _, rfl, h1, k1⟩ := okRow_cons hr
  obtain ⟨a2, _, rfl, h2, k2⟩ := okRow_cons k1
  obtain ⟨a3, _, rfl, h3, k3⟩ := okRow_cons k2
  obtain ⟨a4, _, rfl, h4, k4⟩ := okRow_cons k3
  obtain ⟨a5, _, rfl, h5, k5⟩ := okRow_cons k4
  obtain ⟨a6, _, rfl, h6, k6⟩ := okRow_cons k5
  obtain ⟨a7, _, rfl, h7, k7⟩ := okRow_cons k6
  obtain ⟨a8, _, rfl, h8, k8⟩ := okRow_cons k7
  obtain ⟨a9, _, rfl, h9, k9⟩ := okRow_cons k8
  obtain ⟨x1, rfl, b1⟩ := dec_str h1
  obtain ⟨x2, rfl, _⟩ := dec_int h2
  obtain ⟨x3, rfl, _⟩ := dec_int h3
  obtain ⟨x4, rfl⟩ := dec_bool h4
  obtain ⟨x5, rfl, _⟩ := dec_int h5
  obtain ⟨x6, rfl, b6⟩ := dec_ups h6
  obtain ⟨x7, rfl, b7, c7⟩ := dec_slice Val.cells (fun n => n.Str.size ≤ 9223372036854775807 ∧ n.Flt < 2 ^ 64) shVal (fun r hr => dec_val hr) h7
  obtain ⟨x8, rfl, b8, c8⟩ := dec_slice Ins.cells InsG shIns (fun r hr => dec_ins hr) h8
  obtain ⟨x9, rfl, b9, c9⟩ := dec_slice Nmd.cells (fun n => n.Name.size ≤ 9223372036854775807) shNmd (fun r hr => dec_nmd hr) h9
  rw [okRow_nil k9]
  have v7 : ∀ i : Int, (nth (ol x7) i).Str.size ≤ 9223372036854775807 ∧ (nth (ol x7) i).Flt < 2 ^ 64 := all_nth (p := fun n : Val => n.Str.size ≤ 9223372036854775807 ∧ n.Flt < 2 ^ 64) (by decide) (fun i h0 h1 => c7 _ (nth_mem h0 h1))
  exact ⟨⟨x1, x2, x3, x4, x5, x6, x7, x8, x9⟩, rfl, ⟨b1, b6, b7, fun i => (v7 i).1, b8, b9, all_nth (p := fun n : Nmd => n.Name.size ≤ 9223372036854775807) (by decide) (fun i h0 h1 => c9 _ (nth_mem h0 h1))⟩, ⟨fun i => (v7 i).2, all_nth (p := InsG) insG_def (fun i h0 h1 => c8 _ (nth_mem h0 h1))⟩⟩
theorem protoB_def : ProtoB default := ⟨by decide, by decide, by decide, fun i => by rw [show ol (default : RProto).Consts = [] from rfl, nth_nil]; decide, by decide, by decide, fun i => by rw [show ol (default : RProto).Named = [] from rfl, nth_nil]; decide⟩
theorem protoG_def : ProtoG default := ⟨fun i => by rw [show ol (default : RProto).Consts = [] from rfl, nth_nil]; decide, fun i => by rw [show ol (default : RProto).Ins = [] from rfl, nth_nil]; exact insG_def⟩
theorem dec_code {r : List PV} (hr : OkRow shCode r) : ∃ o : Option (List RProto), r = rcode o ∧ (ol o).length ≤ 9223372036854775807 ∧ (∀ i : Int, ProtoB (nth (ol o) i)) ∧ ∀ i : Int, ProtoG (nth (ol o) i) := by
  obtain ⟨a1, _, rfl, h1, k1⟩ := okRow_cons hr
  obtain ⟨x, rfl, b, c⟩ := dec_slice RProto.cells (fun f => ProtoB f ∧ ProtoG f) shProto (fun r hr => dec_proto hr) h1
  rw [okRow_nil k1]
  exact ⟨x, rfl, b, all_nth protoB_def (fun i h0 h1 => (c _ (nth_mem h0 h1)).1), all_nth protoG_def (fun i h0 h1 => (c _ (nth_mem h0 h1)).2)⟩
end Go.Proofs.Tryd.Av
end
section
attribute [local congr] ite_congr
set_option linter.unusedSimpArgs false
set_option linter.unusedVariables false
set_option maxRecDepth 10000
set_option maxHeartbeats 4000000
namespace Go.Proofs.Tryd.Av
open Go Go.Av Classical
theorem el_law (o : Option (List RProto)) (hb : (ol o).length ≤ 9223372036854775807) (hs : ∀ i : Int, ProtoB (nth (ol o) i)) (hg : ∀ i : Int, ProtoG (nth (ol o) i)) : EP A n_laws_FnExactCheckShape [.agg (rcode o)] = some (.bool true) := by
  have g1 := el_szCode o hb hs
  by_cases c : (1048576 : Int) < szProtos (ol o)
  · rw [rest, if_pos c] at g1
    simp (maxSteps := 10000000) -implicitDefEqProofs +contextual (disch := omega) only [e_laws_FnExactCheckShape, u_laws_FnExactCheckShape, rr_laws_FnExactCheckShape, rcode, lenV_osl, frz_osl, refs_osl, isLeaf_osl, cellsOf_osl, ↓XD, XU, refs, goneIn, Nat.beq, Nat.ble, List.isEmpty, ↓reduceIte, sevalprocAttr, g1]
  · rw [rest, if_neg c] at g1
    have hz : szProtos (ol o) ≤ 1048576 := by omega
    have hl := szProtos_len hz
    have hS := sizedP_to hz hg
    have g2 := el_toCode o hl.1 (szProtos_s hz)
    rw [norm_code] at g2
    have hl2 : ((ol o).map RProto.to).length ≤ 1048576 := by simpa using hl.1
    have g3 := ep_CheckShape _ hl2 hl.2 hS
    have g4 := ei_CheckShape _ hl2 hl.2 hS
    have g5 := el_eqCodeFault (specFault ((ol o).map RProto.to)).1 (specFault ((ol o).map RProto.to)).2.1 (specFault ((ol o).map RProto.to)).2.2
    have g6 := el_eqCode _ hl2 hS
    have e : ¬1048576 - szProtos (ol o) < 0 := by omega
    simp only [code, protos] at g2 g3 g4 g6
    simp (maxSteps := 10000000) -implicitDefEqProofs +contextual (disch := omega) only [e_laws_FnExactCheckShape, u_laws_FnExactCheckShape, rr_laws_FnExactCheckShape, rcode, lenV_osl, frz_osl, refs_osl, isLeaf_osl, cellsOf_osl, ↓XD, XU, refs, goneIn, Nat.beq, Nat.ble, List.isEmpty, ↓reduceIte, sevalprocAttr, g1, g2, g3, g4, g5, g6, e]
end Go.Proofs.Tryd.Av
end
