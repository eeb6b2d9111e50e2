/- Proved here: for every list of arcs the program and the reference agree on MirrorOutline; the list is left as it was, and what is handed back shares no memory with it nor with the result of another call, without any condition. -/
import Derived.Test.YtnfdodgecbibjaaMir
import Derived.Test.YtnfdodgecbibjaaArcP
import Derived.Test.YtnfdodgecbibjaaArcI
namespace Go.Proofs.Ytnfdodgecbibjaa
open Go.ChangeShapes Go.WideShapes Go.ChangeAt Go.RowKit Go.Deep
open Go.ChangeMaps (open_string shut_string)
set_option linter.unusedVariables false

set_option maxHeartbeats 8000000 in
theorem lawFnExactMirrorOutline (a0 : Option Addr) (n0 c0 : Nat) (F0 : Nat → Int) (F1 : Nat → Int) (F2 : Nat → Int) (F3 : Nat → Int) (F4 : Nat → Int) (F5 : Nat → Int) (w : World) (h0 : InArc w a0 n0 F0 F1 F2 F3 F4 F5) :
    Calls Try.prog 7 #[.slice a0 n0 c0] w fun e w' => e = .returned (.bool true) ∧ Below w.heap.size w w' := by
  have H := Lib.hid h0
  clear h0
  go_enter Try.func7, Try.ntmps7
  go_wp2_with fail
  refine (szArcS_in _ _ _ F0 F1 F2 F3 F4 F5 _ H.out).mono ?_
  rintro e w1 ⟨r, hr, rfl, hb1⟩
  rcases hr with hr | ⟨hr0, hr1, hn⟩
  · go_wp2
    go_ret
    exact ⟨rfl, hb1⟩
  · have I1 := Lib.hid (H.out.below hb1)
    go_wp2_with fail
    refine (toArcS_in _ _ _ F0 F1 F2 F3 F4 F5 _ I1.out hn).mono ?_
    rintro e w2 ⟨rfl, Rw2, hbw2⟩
    have Hw2 := Lib.hid Rw2
    clear Rw2
    have Bw2 := hb1.trans (hbw2.mono hb1.size)
    by_cases e0 : listArc n0 F0 F1 F2 F3 F4 F5 = true
    · have HE := Lib.hid e0
      clear e0
      go_wp2_with fail
      refine (specMirror_yes _ n0 F0 F1 F2 F3 F4 F5 _ _ hn Hw2.out HE.out).mono ?_
      rintro e w3 ⟨gs, cs, rfl, hgs, Rs, hcs, hb3⟩
      have S3 := Lib.hid Rs
      have hgsl := Rs.lt
      clear Rs
      clear Hw2
      have B3 := Bw2.trans (hb3.mono Bw2.size)
      have I3 := Lib.hid (H.out.below B3)
      go_wp2_with fail
      refine (toArcS_in _ _ _ F0 F1 F2 F3 F4 F5 _ I3.out hn).mono ?_
      rintro e w4 ⟨rfl, Rw4, hbw4⟩
      have Hw4 := Lib.hid Rw4
      clear Rw4
      have Bw4 := B3.trans (hbw4.mono B3.size)
      have S4 := Lib.hid (S3.out.below hbw4 S3.out.lt)
      clear S3
      go_wp2_with fail
      refine (implMirror_yes _ n0 F0 F1 F2 F3 F4 F5 _ _ hn Hw4.out HE.out).mono ?_
      rintro e w5 ⟨gi, ci, rfl, hgi, Ri, hci, hb5⟩
      have G5 := Lib.hid Ri
      clear Ri
      have S5 := Lib.hid (S4.out.below hb5 S4.out.lt)
      clear S4
      have B5 := Bw4.trans (hb5.mono Bw4.size)
      have X5 := Lib.hid (row_below Hw4.out hb5 Hw4.out.lt)
      have hx4 : w3.heap.size < w4.heap.size := Hw4.out.lt
      clear Hw4
      go_wp2_with fail
      refine (eqArcS_p gi gs n0 _ _ _ _ (flipEnd n0 F0) (fromEnd n0 F1) (flipEnd n0 F4) (fromEnd n0 F5) (flipEnd n0 F2) (fromEnd n0 F3) _ _ _ hn G5.out hci S5.out hcs).mono ?_
      rintro e w6 ⟨rfl, hbw6⟩
      have Bw6 := B5.trans (hbw6.mono B5.size)
      have X6 := Lib.hid (row_below X5.out hbw6 X5.out.lt)
      clear X5
      have I6 := Lib.hid (H.out.below Bw6)
      have G6 := Lib.hid (G5.out.below hbw6 G5.out.lt)
      have S6 := Lib.hid (S5.out.below hbw6 S5.out.lt)
      clear G5 S5
      go_wp2_with fail
      refine (toArcS_in _ _ _ F0 F1 F2 F3 F4 F5 _ I6.out hn).mono ?_
      rintro e w7 ⟨rfl, Rw7, hbw7⟩
      have Hw7 := Lib.hid Rw7
      clear Rw7
      have Bw7 := Bw6.trans (hbw7.mono Bw6.size)
      have X7 := Lib.hid (row_below X6.out hbw7 X6.out.lt)
      clear X6
      go_wp2_with fail
      refine (eqArcS_any _ _ _ F0 F1 F2 F3 F4 F5 _ _ _ hn X7.out Hw7.out).mono ?_
      rintro e w8 ⟨rfl, hb8⟩
      have B8 := Bw7.trans (hb8.mono Bw7.size)
      have X8 := Lib.hid (row_below X7.out hb8 X7.out.lt)
      clear X7 Hw7
      have hb78 := hbw7.trans (hb8.mono hbw7.size)
      have G8 := Lib.hid (G6.out.below hb78 G6.out.lt)
      have S8 := Lib.hid (S6.out.below hb78 S6.out.lt)
      clear G6 S6
      go_wp2_with fail
      refine (markArcS_p w3.heap.size n0 _ (n0 * 6) _ _ _ hn (Part.of_row X8.out) (Nat.le_refl _)).mono ?_
      rintro e w9 ⟨rfl, _, hg9⟩
      have B9 := below_mark B8 hg9 B3.size
      clear X8
      have hk9 : decide (1 + (n0 : Int) * 6 < 0) = false := by simp; omega
      have G9 := Lib.hid (G8.out.other hg9 (by omega))
      have S9 := Lib.hid (S8.out.other hg9 (by omega))
      clear G8 S8 hg9
      go_wp2_with fail
      refine (eqArcS_p gi gs n0 _ _ _ _ (flipEnd n0 F0) (fromEnd n0 F1) (flipEnd n0 F4) (fromEnd n0 F5) (flipEnd n0 F2) (fromEnd n0 F3) _ _ _ hn G9.out hci S9.out hcs).mono ?_
      rintro e w10 ⟨rfl, hbw10⟩
      have Bw10 := B9.trans (hbw10.mono B9.size)
      have G10 := Lib.hid (G9.out.below hbw10 G9.out.lt)
      have S10 := Lib.hid (S9.out.below hbw10 S9.out.lt)
      clear G9 S9
      go_wp2_with fail
      refine (markArcS_p gi n0 _ _ _ _ _ hn G10.out hci).mono ?_
      rintro e w11 ⟨rfl, Pm, hg11⟩
      have M11 := Lib.hid Pm
      have B11 := below_mark Bw10 hg11 (by have := B3.size; omega)
      have S11 := Lib.hid (S10.out.other hg11 (by omega))
      clear Pm G10 S10 hg11
      go_wp2_with fail
      refine (heldArcS_p gi n0 _ _ _ _ hn M11.out hci).mono ?_
      rintro e w12 ⟨rfl, hb12⟩
      have B12 := B11.trans (hb12.mono B11.size)
      have M12 := Lib.hid (M11.out.below hb12 M11.out.lt)
      have S12 := Lib.hid (S11.out.below hb12 S11.out.lt)
      clear M11 S11
      have I12 := Lib.hid (H.out.below B12)
      go_wp2_with fail
      refine (toArcS_in _ _ _ F0 F1 F2 F3 F4 F5 _ I12.out hn).mono ?_
      rintro e w13 ⟨rfl, Rw13, hbw13⟩
      have Hw13 := Lib.hid Rw13
      clear Rw13
      have Bw13 := B12.trans (hbw13.mono B12.size)
      have M13 := Lib.hid (M12.out.below hbw13 M12.out.lt)
      have S13 := Lib.hid (S12.out.below hbw13 S12.out.lt)
      clear M12 S12
      go_wp2_with fail
      refine (implMirror_yes _ n0 F0 F1 F2 F3 F4 F5 _ _ hn Hw13.out HE.out).mono ?_
      rintro e w14 ⟨gh, ch, rfl, hgh, Rh, hch, hb14⟩
      have G14 := Lib.hid Rh
      clear Rh
      have M14 := Lib.hid (M13.out.below hb14 M13.out.lt)
      have S14 := Lib.hid (S13.out.below hb14 S13.out.lt)
      clear M13 S13
      have B14 := Bw13.trans (hb14.mono Bw13.size)
      clear Hw13
      go_wp2_with fail
      refine (eqArcS_p gh gs n0 _ _ _ _ (flipEnd n0 F0) (fromEnd n0 F1) (flipEnd n0 F4) (fromEnd n0 F5) (flipEnd n0 F2) (fromEnd n0 F3) _ _ _ hn G14.out hch S14.out hcs).mono ?_
      rintro e w15 ⟨rfl, hbw15⟩
      have Bw15 := B14.trans (hbw15.mono B14.size)
      have M15 := Lib.hid (M14.out.below hbw15 M14.out.lt)
      clear M14 G14 S14
      go_wp2_with fail
      refine (heldArcS_p gi n0 _ _ _ _ hn M15.out hci).mono ?_
      rintro e w16 ⟨rfl, hb16⟩
      go_wp2
      go_ret
      exact ⟨rfl, Bw15.trans (hb16.mono Bw15.size)⟩
    · have e0n : listArc n0 F0 F1 F2 F3 F4 F5 = false := by simpa using e0
      have HE := Lib.hid e0n
      clear e0 e0n
      go_wp2_with fail
      refine (specMirror_no _ n0 F0 F1 F2 F3 F4 F5 _ _ hn Hw2.out HE.out).mono ?_
      rintro e w3 ⟨rfl, hb3⟩
      clear Hw2
      have B3 := Bw2.trans (hb3.mono Bw2.size)
      have I3 := Lib.hid (H.out.below B3)
      go_wp2_with fail
      refine (toArcS_in _ _ _ F0 F1 F2 F3 F4 F5 _ I3.out hn).mono ?_
      rintro e w4 ⟨rfl, Rw4, hbw4⟩
      have Hw4 := Lib.hid Rw4
      clear Rw4
      have Bw4 := B3.trans (hbw4.mono B3.size)
      go_wp2_with fail
      refine (implMirror_no _ n0 F0 F1 F2 F3 F4 F5 _ _ hn Hw4.out HE.out).mono ?_
      rintro e w5 ⟨rfl, hb5⟩
      have B5 := Bw4.trans (hb5.mono Bw4.size)
      have X5 := Lib.hid (row_below Hw4.out hb5 Hw4.out.lt)
      have hx4 : w3.heap.size < w4.heap.size := Hw4.out.lt
      clear Hw4
      go_wp2_with fail
      refine (eqArcS_none _ _ _ _ _).mono ?_
      rintro e w6 ⟨rfl, hbw6⟩
      have Bw6 := B5.trans (hbw6.mono B5.size)
      have X6 := Lib.hid (row_below X5.out hbw6 X5.out.lt)
      clear X5
      have I6 := Lib.hid (H.out.below Bw6)
      go_wp2_with fail
      refine (toArcS_in _ _ _ F0 F1 F2 F3 F4 F5 _ I6.out hn).mono ?_
      rintro e w7 ⟨rfl, Rw7, hbw7⟩
      have Hw7 := Lib.hid Rw7
      clear Rw7
      have Bw7 := Bw6.trans (hbw7.mono Bw6.size)
      have X7 := Lib.hid (row_below X6.out hbw7 X6.out.lt)
      clear X6
      go_wp2_with fail
      refine (eqArcS_any _ _ _ F0 F1 F2 F3 F4 F5 _ _ _ hn X7.out Hw7.out).mono ?_
      rintro e w8 ⟨rfl, hb8⟩
      have B8 := Bw7.trans (hb8.mono Bw7.size)
      have X8 := Lib.hid (row_below X7.out hb8 X7.out.lt)
      clear X7 Hw7
      go_wp2_with fail
      refine (markArcS_p w3.heap.size n0 _ (n0 * 6) _ _ _ hn (Part.of_row X8.out) (Nat.le_refl _)).mono ?_
      rintro e w9 ⟨rfl, _, hg9⟩
      have B9 := below_mark B8 hg9 B3.size
      clear X8
      have hk9 : decide (1 + (n0 : Int) * 6 < 0) = false := by simp; omega
      clear hg9
      go_wp2_with fail
      refine (eqArcS_none _ _ _ _ _).mono ?_
      rintro e w10 ⟨rfl, hbw10⟩
      have Bw10 := B9.trans (hbw10.mono B9.size)
      go_wp2_with fail
      refine (markArcS_none _ _ _).mono ?_
      rintro e w11 ⟨rfl, rfl⟩
      go_wp2_with fail
      refine (heldArcS_none _ _ _).mono ?_
      rintro e w12 ⟨rfl, hb12⟩
      have B12 := Bw10.trans (hb12.mono Bw10.size)
      have I12 := Lib.hid (H.out.below B12)
      go_wp2_with fail
      refine (toArcS_in _ _ _ F0 F1 F2 F3 F4 F5 _ I12.out hn).mono ?_
      rintro e w13 ⟨rfl, Rw13, hbw13⟩
      have Hw13 := Lib.hid Rw13
      clear Rw13
      have Bw13 := B12.trans (hbw13.mono B12.size)
      go_wp2_with fail
      refine (implMirror_no _ n0 F0 F1 F2 F3 F4 F5 _ _ hn Hw13.out HE.out).mono ?_
      rintro e w14 ⟨rfl, hb14⟩
      have B14 := Bw13.trans (hb14.mono Bw13.size)
      clear Hw13
      go_wp2_with fail
      refine (eqArcS_none _ _ _ _ _).mono ?_
      rintro e w15 ⟨rfl, hbw15⟩
      have Bw15 := B14.trans (hbw15.mono B14.size)
      go_wp2_with fail
      refine (heldArcS_none _ _ _).mono ?_
      rintro e w16 ⟨rfl, hb16⟩
      go_wp2
      go_ret
      exact ⟨rfl, Bw15.trans (hb16.mono Bw15.size)⟩

set_option maxRecDepth 100000 in
theorem liftedFnExactMirrorOutline (os : Os) (started : os.Started) (H : Type) (enc : TypeId × Value → H) :
    ReturnsInHanded {} Try.checked os 7 .any (Rows.fnExactMirrorOutlineSpec.pre6 enc Try.prog Try.f7 Rows.fnExactMirrorOutlineRow.domain false) (Rows.fnExactMirrorOutlineSpec.post enc Try.prog Try.f7 false true false false) := by
  refine returnsInHanded_of_change (C := Try.checked) own started (by kernel_rfl) Try.func7
    (ChangeSpec.witness6 (enc := enc) (C := Try.checked) false ⟨#[], #[.slice none 0 0], []⟩ 8 (by kernel_rfl) (by kernel_rfl) (by kernel_rfl) (by kernel_rfl)) ?_
  intro W base args ds gs before hval0 hW hcnd _
  have hval : ∀ (j : Nat) t v, Try.f7.params[j]? = some t → args[j]? = some v → Value.okWide Try.prog W .any base t v := hval0
  have hW' := hW
  obtain ⟨p, q, hA0, hV, rfl, hfz, hnd⟩ := hW
  have hA : DataW.TrodAll enc Try.prog W 0 (fun _ => true) true Try.f7.params.toList args.toList ds p := hA0
  rw [Try.params7] at hA hval
  obtain ⟨v0, vs0, d0, ds0, p0, q0, hargs, rfl, rfl, h0, r0⟩ := trodAll_cons hA
  obtain ⟨rfl, rfl, rfl⟩ := trodAll_nil r0
  obtain rfl : args = #[v0] := by cases args; simp_all
  obtain ⟨rfl, rfl⟩ := trodVars_none hV
  obtain ⟨a0, len0, cap0, rfl⟩ := okWide_slice Try.underlying22 (hval 0 22 v0 rfl rfl)
  have k0 := h0
  have lt0 : ∀ x ∈ p0, x.block < W.heap.size := by obtain ⟨m, hm⟩ := k0; exact DataW.trod_lt m _ _ _ hm
  obtain ⟨F0, F1, F2, F3, F4, F5, w0⟩ : ∃ F0 F1 F2 F3 F4 F5, InArc W a0 len0 F0 F1 F2 F3 F4 F5 := by
    obtain ⟨fuel, hf⟩ := h0
    exact inArc_of (by simpa [Value.cells] using hf)
  clear hA0 hval0
  refine (lawFnExactMirrorOutline a0 len0 cap0 F0 F1 F2 F3 F4 F5 W w0).mono fun e W' ⟨he, bel⟩ => ?_
  subst he
  exact ⟨_, rfl, _, _, _, [], _, [], hW', trodAll_mk1 (shut_bool Try.underlying4 _), (trodAll_cons_mk (Below.trod laidOut (by kernel_rfl) (of_decide_eq_true (by kernel_rfl)) k0 bel lt0) trodAll_mk0), rfl, bel.frame _, fun h => by cases h⟩

/-- The law FnExactMirrorOutline returns true for every input, and leaves its arguments as they were. -/
theorem fnExactMirrorOutline_holds : Rows.FnExactMirrorOutlineSaid :=
  OpenClaim.holds_of_wide 7 Try.f7 rfl rfl rfl rfl rfl rfl rfl ⟨rfl, rfl, rfl, rfl, rfl⟩ rfl rfl rfl rfl rfl (by kernel_rfl) Try.func7 (by kernel_rfl)
    (of_decide_eq_true (by kernel_rfl)) (by unfold Func.isWrapper; first | (rw [if_pos (by decide +kernel)]; kernel_rfl) | (rw [if_neg (by decide +kernel)]; exact ⟨rfl, rfl⟩))
    (fun os started H enc _ => liftedFnExactMirrorOutline os started H enc)
end Go.Proofs.Ytnfdodgecbibjaa
