/- Proved here: for every two lists of versions the program and the reference agree on whether they are equal, and the lists are left as they were, without any condition. -/
import Derived.Test.YtllmillhdmknpaaSame
namespace Go.Proofs.Ytllmillhdmknpaa
open Go.ChangeShapes Go.WideShapes Go.ChangeAt Go.RowKit Go.Deep
open Go.ChangeMaps (open_string shut_string)
set_option linter.unusedVariables false

set_option maxHeartbeats 4000000 in
theorem lawFnExactSameHistory (a0 : Option Addr) (n0 c0 : Nat) (F0 F1 : Nat → Int) (F2 : Nat → ByteArray) (A0 : Nat → Option Addr) (N0 C0 : Nat → Nat) (Y0 : Nat → Nat → ByteArray) (V0 : Nat → Nat → Int) (a1 : Option Addr) (n1 c1 : Nat) (H0 H1 : Nat → Int) (H2 : Nat → ByteArray) (A1 : Nat → Option Addr) (N1 C1 : Nat → Nat) (Y1 : Nat → Nat → ByteArray) (V1 : Nat → Nat → Int) (w : World) (h0 : InVersion w a0 n0 F0 F1 F2 A0 N0 C0 Y0 V0) (h1 : InVersion w a1 n1 H0 H1 H2 A1 N1 C1 Y1 V1) :
    Calls Try.prog 9 #[.slice a0 n0 c0, .slice a1 n1 c1] w fun e w' => e = .returned (.bool true) ∧ Below w.heap.size w w' := by
  have H := Lib.hid h0
  have K := Lib.hid h1
  clear h0 h1
  obtain ⟨v, hv⟩ : ∃ v, sameL n0 n1 F0 F1 F2 N0 Y0 V0 H0 H1 H2 N1 Y1 V1 = v := ⟨_, rfl⟩
  have HV := Lib.hid hv
  clear hv
  go_enter Try.func9, Try.ntmps9
  go_wp2_with fail
  refine (szVersionS_in _ _ _ F0 F1 F2 A0 N0 C0 Y0 V0 _ _ H.out (by omega) (by omega)).mono ?_
  rintro e w1 ⟨r, hr, rfl, hb1⟩
  rcases hr with hr | ⟨hr0, hr1, hn0, hN0⟩
  · go_wp2
    go_ret
    exact ⟨rfl, hb1⟩
  have HN0 := Lib.hid hN0
  clear hN0
  have K1 := Lib.hid (K.out.below hb1)
  go_wp2_with fail
  refine (szVersionS_in _ _ _ H0 H1 H2 A1 N1 C1 Y1 V1 _ _ K1.out (by omega) (by omega)).mono ?_
  rintro e w2 ⟨r2, hr2, rfl, hb2⟩
  have B2 := hb1.trans (hb2.mono hb1.size)
  rcases hr2 with hr2 | ⟨hs0, hs1, hn1, hN1⟩
  · go_wp2
    go_ret
    exact ⟨rfl, B2⟩
  · have HN1 := Lib.hid hN1
    clear hN1
    have I2 := Lib.hid (H.out.below B2)
    go_wp2_with fail
    refine (toVersionS_in _ _ _ F0 F1 F2 A0 N0 C0 Y0 V0 _ I2.out hn0 HN0.out).mono ?_
    rintro e w3 ⟨Gw3, rfl, Rw3, hbw3⟩
    have Dw3 := Lib.hid Rw3
    clear Rw3
    have Bw3 := B2.trans (hbw3.mono B2.size)
    have I3 := Lib.hid (K.out.below Bw3)
    go_wp2_with fail
    refine (toVersionS_in _ _ _ H0 H1 H2 A1 N1 C1 Y1 V1 _ I3.out hn1 HN1.out).mono ?_
    rintro e w4 ⟨Gw4, rfl, Rw4, hbw4⟩
    have Dw4 := Lib.hid Rw4
    clear Rw4
    have Bw4 := Bw3.trans (hbw4.mono Bw3.size)
    have E3 := Lib.hid (Dw3.out.below hbw4)
    go_wp2_with fail
    refine (specSame_any _ _ n0 n1 F0 F1 F2 N0 Y0 V0 H0 H1 H2 N1 Y1 V1 Gw3 Gw4 _ hn0 hn1 HN0.out HN1.out E3.out Dw4.out).mono ?_
    rintro e w5 ⟨rfl, hb5⟩
    rw [HV.out]
    clear E3 Dw3 Dw4
    have B5 := Bw4.trans (hb5.mono Bw4.size)
    have I5 := Lib.hid (H.out.below B5)
    go_wp2_with fail
    refine (toVersionS_in _ _ _ F0 F1 F2 A0 N0 C0 Y0 V0 _ I5.out hn0 HN0.out).mono ?_
    rintro e w6 ⟨Gw6, rfl, Rw6, hbw6⟩
    have Dw6 := Lib.hid Rw6
    clear Rw6
    have Bw6 := B5.trans (hbw6.mono B5.size)
    have I6 := Lib.hid (K.out.below Bw6)
    go_wp2_with fail
    refine (toVersionS_in _ _ _ H0 H1 H2 A1 N1 C1 Y1 V1 _ I6.out hn1 HN1.out).mono ?_
    rintro e w7 ⟨Gw7, rfl, Rw7, hbw7⟩
    have Dw7 := Lib.hid Rw7
    clear Rw7
    have Bw7 := Bw6.trans (hbw7.mono Bw6.size)
    have E6 := Lib.hid (Dw6.out.below hbw7)
    go_wp2_with fail
    refine (implSame_any _ _ n0 n1 F0 F1 F2 N0 Y0 V0 H0 H1 H2 N1 Y1 V1 Gw6 Gw7 _ hn0 hn1 HN0.out HN1.out E6.out Dw7.out).mono ?_
    rintro e w8 ⟨rfl, hb8⟩
    rw [HV.out]
    have B8 := Bw7.trans (hb8.mono Bw7.size)
    have I8 := Lib.hid (H.out.below B8)
    have E8 := Lib.hid (E6.out.below hb8)
    have F8 := Lib.hid (Dw7.out.below hb8)
    clear E6 Dw6 Dw7
    go_wp2_with fail
    refine (toVersionS_in _ _ _ F0 F1 F2 A0 N0 C0 Y0 V0 _ I8.out hn0 HN0.out).mono ?_
    rintro e w9 ⟨Gw9, rfl, Rw9, hbw9⟩
    have Dw9 := Lib.hid Rw9
    clear Rw9
    have Bw9 := B8.trans (hbw9.mono B8.size)
    have E9 := Lib.hid (E8.out.below hbw9)
    have F9 := Lib.hid (F8.out.below hbw9)
    clear E8 F8
    go_wp2_with fail
    refine (eqVersionS_any _ _ n0 F0 F1 F2 Gw6 Gw9 N0 Y0 V0 _ hn0 HN0.out E9.out Dw9.out).mono ?_
    rintro e w10 ⟨rfl, hb10⟩
    have B10 := Bw9.trans (hb10.mono Bw9.size)
    have I10 := Lib.hid (K.out.below B10)
    have F10 := Lib.hid (F9.out.below hb10)
    clear E9 F9 Dw9
    go_wp2_with fail
    refine (toVersionS_in _ _ _ H0 H1 H2 A1 N1 C1 Y1 V1 _ I10.out hn1 HN1.out).mono ?_
    rintro e w11 ⟨Gw11, rfl, Rw11, hbw11⟩
    have Dw11 := Lib.hid Rw11
    clear Rw11
    have Bw11 := B10.trans (hbw11.mono B10.size)
    have F11 := Lib.hid (F10.out.below hbw11)
    clear F10
    go_wp2_with fail
    refine (eqVersionS_any _ _ n1 H0 H1 H2 Gw7 Gw11 N1 Y1 V1 _ hn1 HN1.out F11.out Dw11.out).mono ?_
    rintro e w12 ⟨rfl, hb12⟩
    go_wp2
    go_ret
    exact ⟨rfl, Bw11.trans (hb12.mono Bw11.size)⟩

set_option maxRecDepth 100000 in
theorem liftedFnExactSameHistory (os : Os) (started : os.Started) (H : Type) (enc : TypeId × Value → H) :
    ReturnsInHanded {} Try.checked os 9 .any (Rows.fnExactSameHistorySpec.pre6 enc Try.prog Try.f9 Rows.fnExactSameHistoryRow.domain false) (Rows.fnExactSameHistorySpec.post enc Try.prog Try.f9 false true false false) := by
  refine returnsInHanded_of_change (C := Try.checked) own started (by kernel_rfl) Try.func9
    (ChangeSpec.witness6 (enc := enc) (C := Try.checked) false ⟨#[], #[.slice none 0 0, .slice none 0 0], []⟩ 8 (by kernel_rfl) (by kernel_rfl) (by kernel_rfl) (by kernel_rfl)) ?_
  intro W base args ds gs before hval0 hW hcnd _
  have hval : ∀ (j : Nat) t v, Try.f9.params[j]? = some t → args[j]? = some v → Value.okWide Try.prog W .any base t v := hval0
  have hW' := hW
  obtain ⟨p, q, hA0, hV, rfl, hfz, hnd⟩ := hW
  have hA : DataW.TrodAll enc Try.prog W 0 (fun _ => true) true Try.f9.params.toList args.toList ds p := hA0
  rw [Try.params9] at hA hval
  obtain ⟨v0, vs0, d0, ds0, p0, q0, hargs, rfl, rfl, h0, r0⟩ := trodAll_cons hA
  obtain ⟨v1, vs1, d1, ds1, p1, q1, rfl, rfl, rfl, h1, r1⟩ := trodAll_cons r0
  obtain ⟨rfl, rfl, rfl⟩ := trodAll_nil r1
  obtain rfl : args = #[v0, v1] := by cases args; simp_all
  obtain ⟨rfl, rfl⟩ := trodVars_none hV
  obtain ⟨a0, len0, cap0, rfl⟩ := okWide_slice Try.underlying68 (hval 0 68 v0 rfl rfl)
  have k0 := h0
  have lt0 : ∀ x ∈ p0, x.block < W.heap.size := by obtain ⟨m, hm⟩ := k0; exact DataW.trod_lt m _ _ _ hm
  obtain ⟨F0, F1, F2, A0, N0, C0, Y0, V0, w0⟩ : ∃ F0 F1 F2 A0 N0 C0 Y0 V0, InVersion W a0 len0 F0 F1 F2 A0 N0 C0 Y0 V0 := by
    obtain ⟨fuel, hf⟩ := h0
    exact inVersion_of (by simpa [Value.cells] using hf)
  obtain ⟨a1, len1, cap1, rfl⟩ := okWide_slice Try.underlying68 (hval 1 68 v1 rfl rfl)
  have k1 := h1
  have lt1 : ∀ x ∈ p1, x.block < W.heap.size := by obtain ⟨m, hm⟩ := k1; exact DataW.trod_lt m _ _ _ hm
  obtain ⟨H0, H1, H2, A1, N1, C1, Y1, V1, w1⟩ : ∃ H0 H1 H2 A1 N1 C1 Y1 V1, InVersion W a1 len1 H0 H1 H2 A1 N1 C1 Y1 V1 := by
    obtain ⟨fuel, hf⟩ := h1
    exact inVersion_of (by simpa [Value.cells] using hf)
  clear hA0 hval0
  refine (lawFnExactSameHistory a0 len0 cap0 F0 F1 F2 A0 N0 C0 Y0 V0 a1 len1 cap1 H0 H1 H2 A1 N1 C1 Y1 V1 W w0 w1).mono fun e W' ⟨he, bel⟩ => ?_
  subst he
  exact ⟨_, rfl, _, _, _, [], _, [], hW', trodAll_mk1 (shut_bool Try.underlying4 _), (trodAll_cons_mk (Below.trod laidOut (by kernel_rfl) (of_decide_eq_true (by kernel_rfl)) k0 bel lt0) (trodAll_cons_mk (Below.trod laidOut (by kernel_rfl) (of_decide_eq_true (by kernel_rfl)) k1 bel lt1) trodAll_mk0)), rfl, bel.frame _, fun h => by cases h⟩

/-- The law FnExactSameHistory returns true for every input, and leaves its arguments as they were. -/
theorem fnExactSameHistory_holds : Rows.FnExactSameHistorySaid :=
  OpenClaim.holds_of_wide 9 Try.f9 rfl rfl rfl rfl rfl rfl rfl ⟨rfl, rfl, rfl, rfl, rfl⟩ rfl rfl rfl rfl rfl (by kernel_rfl) Try.func9 (by kernel_rfl)
    (of_decide_eq_true (by kernel_rfl)) (by unfold Func.isWrapper; first | (rw [if_pos (by decide +kernel)]; kernel_rfl) | (rw [if_neg (by decide +kernel)]; exact ⟨rfl, rfl⟩))
    (fun os started H enc _ => liftedFnExactSameHistory os started H enc)
end Go.Proofs.Ytllmillhdmknpaa
