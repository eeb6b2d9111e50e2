/- Proved here: for every list of steps the program and the reference agree on whether it is valid, and the list is left as it was, without any condition. -/
import Derived.Test.YtllmillhdmknpaaStepM
namespace Go.Proofs.Ytllmillhdmknpaa
open Go.ChangeShapes Go.WideShapes Go.ChangeAt Go.RowKit Go.Deep
open Go.ChangeMaps (open_string shut_string)
set_option linter.unusedVariables false

set_option maxHeartbeats 2000000 in
theorem lawFnExactValidSteps (a0 : Option Addr) (n0 c0 : Nat) (F0 : Nat → ByteArray) (F1 F2 : Nat → Int) (A : Nat → Option Addr) (N C : Nat → Nat) (Z : Nat → Nat → Int) (w : World) (h0 : InStep w a0 n0 F0 F1 F2 A N C Z) :
    Calls Try.prog 8 #[.slice a0 n0 c0] w fun e w' => e = .returned (.bool true) ∧ Below w.heap.size w w' := by
  have H := Lib.hid h0
  clear h0
  obtain ⟨v, hv⟩ : ∃ v, listStep n0 F0 F1 F2 N Z = v := ⟨_, rfl⟩
  have HV := Lib.hid hv
  clear hv
  go_enter Try.func8, Try.ntmps8
  go_wp2_with fail
  refine (szStepS_in _ _ _ F0 F1 F2 A N C Z _ H.out).mono ?_
  rintro e w1 ⟨r, hr, rfl, hb1⟩
  rcases hr with hr | ⟨hr0, hr1, hn, hN⟩
  · go_wp2
    go_ret
    exact ⟨rfl, hb1⟩
  · have HN := Lib.hid hN
    clear hN
    have HS := Lib.hid H.out.2.1
    have I1 := Lib.hid (H.out.below hb1)
    go_wp2_with fail
    refine (toStepS_in _ _ _ F0 F1 F2 A N C Z _ I1.out hn HN.out).mono ?_
    rintro e w2 ⟨G2, rfl, R2, hb2⟩
    have HR2 := Lib.hid R2
    clear R2
    have B2 := hb1.trans (hb2.mono hb1.size)
    go_wp2_with fail
    refine (SpecValidStep_any _ n0 F0 F1 F2 G2 N Z _ hn HN.out HR2.out HS.out).mono ?_
    rintro e w3 ⟨rfl, hb3⟩
    rw [HV.out]
    clear HR2
    have B3 := B2.trans (hb3.mono B2.size)
    have I3 := Lib.hid (H.out.below B3)
    go_wp2_with fail
    refine (toStepS_in _ _ _ F0 F1 F2 A N C Z _ I3.out hn HN.out).mono ?_
    rintro e w4 ⟨G4, rfl, R4, hb4⟩
    have HR4 := Lib.hid R4
    clear R4
    have B4 := B3.trans (hb4.mono B3.size)
    go_wp2_with fail
    refine (ValidStep_any _ n0 F0 F1 F2 G4 N Z _ hn HN.out HR4.out HS.out).mono ?_
    rintro e w5 ⟨rfl, hb5⟩
    rw [HV.out]
    have B5 := B4.trans (hb5.mono B4.size)
    have I5 := Lib.hid (H.out.below B5)
    have HR5 := Lib.hid (HR4.out.below hb5)
    clear HR4
    go_wp2_with fail
    refine (toStepS_in _ _ _ F0 F1 F2 A N C Z _ I5.out hn HN.out).mono ?_
    rintro e w6 ⟨G6, rfl, R6, hb6⟩
    have HR6 := Lib.hid R6
    clear R6
    have HR7 := Lib.hid (HR5.out.below hb6)
    clear HR5
    have B6 := B5.trans (hb6.mono B5.size)
    go_wp2_with fail
    refine (eqStepS_any _ _ n0 F0 F1 F2 G4 G6 N Z _ hn HN.out HR7.out HR6.out).mono ?_
    rintro e w7 ⟨rfl, hb7⟩
    go_wp2
    go_ret
    exact ⟨rfl, B6.trans (hb7.mono B6.size)⟩

set_option maxRecDepth 100000 in
theorem liftedFnExactValidSteps (os : Os) (started : os.Started) (H : Type) (enc : TypeId × Value → H) :
    ReturnsInHanded {} Try.checked os 8 .any (Rows.fnExactValidStepsSpec.pre6 enc Try.prog Try.f8 Rows.fnExactValidStepsRow.domain false) (Rows.fnExactValidStepsSpec.post enc Try.prog Try.f8 false true false false) := by
  refine returnsInHanded_of_change (C := Try.checked) own started (by kernel_rfl) Try.func8
    (ChangeSpec.witness6 (enc := enc) (C := Try.checked) false ⟨#[], #[.slice none 0 0], []⟩ 8 (by kernel_rfl) (by kernel_rfl) (by kernel_rfl) (by kernel_rfl)) ?_
  intro W base args ds gs before hval0 hW hcnd _
  have hval : ∀ (j : Nat) t v, Try.f8.params[j]? = some t → args[j]? = some v → Value.okWide Try.prog W .any base t v := hval0
  have hW' := hW
  obtain ⟨p, q, hA0, hV, rfl, hfz, hnd⟩ := hW
  have hA : DataW.TrodAll enc Try.prog W 0 (fun _ => true) true Try.f8.params.toList args.toList ds p := hA0
  rw [Try.params8] at hA hval
  obtain ⟨v0, vs0, d0, ds0, p0, q0, hargs, rfl, rfl, h0, r0⟩ := trodAll_cons hA
  obtain ⟨rfl, rfl, rfl⟩ := trodAll_nil r0
  obtain rfl : args = #[v0] := by cases args; simp_all
  obtain ⟨rfl, rfl⟩ := trodVars_none hV
  obtain ⟨a0, len0, cap0, rfl⟩ := okWide_slice Try.underlying61 (hval 0 61 v0 rfl rfl)
  have k0 := h0
  have lt0 : ∀ x ∈ p0, x.block < W.heap.size := by obtain ⟨m, hm⟩ := k0; exact DataW.trod_lt m _ _ _ hm
  obtain ⟨F0, F1, F2, A, N, C, Z, w0⟩ : ∃ F0 F1 F2 A N C Z, InStep W a0 len0 F0 F1 F2 A N C Z := by
    obtain ⟨fuel, hf⟩ := h0
    exact inStep_of (by simpa [Value.cells] using hf)
  clear hA0 hval0
  refine (lawFnExactValidSteps a0 len0 cap0 F0 F1 F2 A N C Z W w0).mono fun e W' ⟨he, bel⟩ => ?_
  subst he
  exact ⟨_, rfl, _, _, _, [], _, [], hW', trodAll_mk1 (shut_bool Try.underlying4 _), (trodAll_cons_mk (Below.trod laidOut (by kernel_rfl) (of_decide_eq_true (by kernel_rfl)) k0 bel lt0) trodAll_mk0), rfl, bel.frame _, fun h => by cases h⟩

/-- The law FnExactValidSteps returns true for every input, and leaves its arguments as they were. -/
theorem fnExactValidSteps_holds : Rows.FnExactValidStepsSaid :=
  OpenClaim.holds_of_wide 8 Try.f8 rfl rfl rfl rfl rfl rfl rfl ⟨rfl, rfl, rfl, rfl, rfl⟩ rfl rfl rfl rfl rfl (by kernel_rfl) Try.func8 (by kernel_rfl)
    (of_decide_eq_true (by kernel_rfl)) (by unfold Func.isWrapper; first | (rw [if_pos (by decide +kernel)]; kernel_rfl) | (rw [if_neg (by decide +kernel)]; exact ⟨rfl, rfl⟩))
    (fun os started H enc _ => liftedFnExactValidSteps os started H enc)
end Go.Proofs.Ytllmillhdmknpaa
