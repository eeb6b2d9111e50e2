/- Proved here: for every list of deeds and every list of numbers the program and the reference agree on IsChain, and the arguments are left as they were, without any condition. -/
import Derived.Test.YtlpjjhjbejjddaaChain
import Derived.Test.YtlpjjhjbejjddaaDeedI
namespace Go.Proofs.Ytlpjjhjbejjddaa
open Go.ChangeShapes Go.WideShapes Go.ChangeAt Go.RowKit Go.Deep
open Go.ChangeMaps (open_string shut_string)
set_option linter.unusedVariables false

set_option maxHeartbeats 4000000 in
theorem lawFnExactIsChain (a0 : Option Addr) (n0 c0 : Nat) (F0 : Nat → ByteArray) (F1 : Nat → ByteArray) (F2 : Nat → Int) (F3 : Nat → Int) (a1 : Option Addr) (n1 c1 : Nat) (z1 : Nat → Int) (w : World) (h0 : InDeed w a0 n0 F0 F1 F2 F3) (h1 : InInts w a1 n1 z1) :
    Calls Try.prog 10 #[.slice a0 n0 c0, .slice a1 n1 c1] w fun e w' => e = .returned (.bool true) ∧ Below w.heap.size w w' := by
  have H := Lib.hid h0
  have HI := Lib.hid h1
  have him : n1 ≤ maxLen := h1.2.1
  clear h0 h1
  unfold maxLen at him
  by_cases hm : n1 ≤ 1048576
  case neg =>
    have hm2 : (1048576 : Int) < (n1 : Int) := by omega
    go_enter Try.func10, Try.ntmps10
    go_wp2
    go_ret
    exact ⟨rfl, Below.refl _ _⟩
  go_enter Try.func10, Try.ntmps10
  go_wp2_with fail
  refine (szDeedS_in _ _ _ F0 F1 F2 F3 _ H.out).mono ?_
  rintro e w1 ⟨r, hr, rfl, hb1⟩
  rcases hr with hr | ⟨hr0, hr1, hn⟩
  · go_wp2
    go_ret
    exact ⟨rfl, hb1⟩
  · have H1 := Lib.hid (H.out.below hb1)
    have HS0 := Lib.hid H.out.2.1.1
    have HS1 := Lib.hid H.out.2.1.2
    go_wp2_with fail
    refine (toDeedS_in _ _ _ F0 F1 F2 F3 _ H1.out hn).mono ?_
    rintro e w2 ⟨rfl, R2, hb2⟩
    have HR2 := Lib.hid R2
    clear R2
    have B2 := hb1.trans (hb2.mono hb1.size)
    have I2 := Lib.hid (HI.out.below B2)
    go_wp2_with fail
    refine (toInt64S_in _ _ _ z1 _ I2.out hm).mono ?_
    rintro e w3 ⟨rfl, R3, hb3⟩
    have HR3 := Lib.hid R3
    clear R3
    have HR2b := Lib.hid (row_below HR2.out hb3 HR2.out.lt)
    have B3 := B2.trans (hb3.mono B2.size)
    go_wp2_with fail
    refine (specIsChain_any _ _ F0 F1 F2 F3 _ _ _ _ _ _ hn HR2b.out HS0.out HS1.out hm HR3.out).mono ?_
    rintro e w4 ⟨rfl, hb4⟩
    clear HR2 HR2b HR3
    have B4 := B3.trans (hb4.mono B3.size)
    have H4 := Lib.hid (H.out.below B4)
    go_wp2_with fail
    refine (toDeedS_in _ _ _ F0 F1 F2 F3 _ H4.out hn).mono ?_
    rintro e w5 ⟨rfl, R5, hb5⟩
    have HR5 := Lib.hid R5
    clear R5
    have B5 := B4.trans (hb5.mono B4.size)
    have I5 := Lib.hid (HI.out.below B5)
    go_wp2_with fail
    refine (toInt64S_in _ _ _ z1 _ I5.out hm).mono ?_
    rintro e w6 ⟨rfl, R6, hb6⟩
    have HR6 := Lib.hid R6
    clear R6
    have HR5b := Lib.hid (row_below HR5.out hb6 HR5.out.lt)
    have B6 := B5.trans (hb6.mono B5.size)
    go_wp2_with fail
    refine (implIsChain_any _ _ F0 F1 F2 F3 _ _ _ _ _ _ hn HR5b.out HS0.out HS1.out hm HR6.out).mono ?_
    rintro e w7 ⟨rfl, hb7⟩
    generalize (listDeed n0 F0 F1 F2 F3 && chainB n0 n1 z1 F0 F1) = B at *
    have HR7 := Lib.hid (row_below HR5b.out hb7 HR5b.out.lt)
    have HI7 := Lib.hid (row_below HR6.out hb7 HR6.out.lt)
    clear HR5 HR5b HR6
    have B7 := B6.trans (hb7.mono B6.size)
    have H7 := Lib.hid (H.out.below B7)
    go_wp2_with fail
    refine (toDeedS_in _ _ _ F0 F1 F2 F3 _ H7.out hn).mono ?_
    rintro e w8 ⟨rfl, R8, hb8⟩
    have HR8 := Lib.hid R8
    clear R8
    have HR9 := Lib.hid (row_below HR7.out hb8 HR7.out.lt)
    have HI9 := Lib.hid (row_below HI7.out hb8 HI7.out.lt)
    clear HR7 HI7
    have B8 := B7.trans (hb8.mono B7.size)
    go_wp2_with fail
    refine (eqDeedS_any _ _ _ F0 F1 F2 F3 _ _ _ hn HR9.out HR8.out).mono ?_
    rintro e w9 ⟨rfl, hb9⟩
    have HI10 := Lib.hid (row_below HI9.out hb9 HI9.out.lt)
    clear HI9
    have B9 := B8.trans (hb9.mono B8.size)
    have I9 := Lib.hid (HI.out.below B9)
    go_wp2_with fail
    refine (toInt64S_in _ _ _ z1 _ I9.out hm).mono ?_
    rintro e w10 ⟨rfl, R10, hb10⟩
    have HR10 := Lib.hid R10
    clear R10
    have HI11 := Lib.hid (row_below HI10.out hb10 HI10.out.lt)
    clear HI10
    have B10 := B9.trans (hb10.mono B9.size)
    go_wp2_with fail
    refine (eqInt64S_any _ _ _ z1 _ _ _ hm HI11.out HR10.out).mono ?_
    rintro e w11 ⟨rfl, hb11⟩
    go_wp2
    go_ret
    exact ⟨rfl, B10.trans (hb11.mono B10.size)⟩

set_option maxRecDepth 100000 in
theorem liftedFnExactIsChain (os : Os) (started : os.Started) (H : Type) (enc : TypeId × Value → H) :
    ReturnsInHanded {} Try.checked os 10 .any (Rows.fnExactIsChainSpec.pre6 enc Try.prog Try.f10 Rows.fnExactIsChainRow.domain false) (Rows.fnExactIsChainSpec.post enc Try.prog Try.f10 false true false false) := by
  refine returnsInHanded_of_change (C := Try.checked) own started (by kernel_rfl) Try.func10
    (ChangeSpec.witness6 (enc := enc) (C := Try.checked) false ⟨#[], #[.slice none 0 0, .slice none 0 0], []⟩ 8 (by kernel_rfl) (by kernel_rfl) (by kernel_rfl) (by kernel_rfl)) ?_
  intro W base args ds gs before hval0 hW hcnd _
  have hval : ∀ (j : Nat) t v, Try.f10.params[j]? = some t → args[j]? = some v → Value.okWide Try.prog W .any base t v := hval0
  have hW' := hW
  obtain ⟨p, q, hA0, hV, rfl, hfz, hnd⟩ := hW
  have hA : DataW.TrodAll enc Try.prog W 0 (fun _ => true) true Try.f10.params.toList args.toList ds p := hA0
  rw [Try.params10] at hA hval
  obtain ⟨v0, vs0, d0, ds0, p0, q0, hargs, rfl, rfl, h0, r0⟩ := trodAll_cons hA
  obtain ⟨v1, vs1, d1, ds1, p1, q1, rfl, rfl, rfl, h1, r1⟩ := trodAll_cons r0
  obtain ⟨rfl, rfl, rfl⟩ := trodAll_nil r1
  obtain rfl : args = #[v0, v1] := by cases args; simp_all
  obtain ⟨rfl, rfl⟩ := trodVars_none hV
  obtain ⟨a0, len0, cap0, rfl⟩ := okWide_slice Try.underlying52 (hval 0 52 v0 rfl rfl)
  have k0 := h0
  have lt0 : ∀ x ∈ p0, x.block < W.heap.size := by obtain ⟨m, hm⟩ := k0; exact DataW.trod_lt m _ _ _ hm
  obtain ⟨F0, F1, F2, F3, w0⟩ : ∃ F0 F1 F2 F3, InDeed W a0 len0 F0 F1 F2 F3 := by
    obtain ⟨fuel, hf⟩ := h0
    exact inDeed_of (by simpa [Value.cells] using hf)
  obtain ⟨a1, len1, cap1, rfl⟩ := okWide_slice Try.underlying53 (hval 1 53 v1 rfl rfl)
  have k1 := h1
  have lt1 : ∀ x ∈ p1, x.block < W.heap.size := by obtain ⟨m, hm⟩ := k1; exact DataW.trod_lt m _ _ _ hm
  obtain ⟨z1, w1⟩ : ∃ z, InInts W a1 len1 z := by
    obtain ⟨fuel, hf⟩ := h1
    exact inInts_of (by simpa [Value.cells] using hf)
  clear hA0 hval0
  refine (lawFnExactIsChain a0 len0 cap0 F0 F1 F2 F3 a1 len1 cap1 z1 W w0 w1).mono fun e W' ⟨he, bel⟩ => ?_
  subst he
  exact ⟨_, rfl, _, _, _, [], _, [], hW', trodAll_mk1 (shut_bool Try.underlying4 _), (trodAll_cons_mk (Below.trod laidOut (by kernel_rfl) (of_decide_eq_true (by kernel_rfl)) k0 bel lt0) (trodAll_cons_mk (Below.trod laidOut (by kernel_rfl) (of_decide_eq_true (by kernel_rfl)) k1 bel lt1) trodAll_mk0)), rfl, bel.frame _, fun h => by cases h⟩

/-- The law FnExactIsChain returns true for every input, and leaves its arguments as they were. -/
theorem fnExactIsChain_holds : Rows.FnExactIsChainSaid :=
  OpenClaim.holds_of_wide 10 Try.f10 rfl rfl rfl rfl rfl rfl rfl ⟨rfl, rfl, rfl, rfl, rfl⟩ rfl rfl rfl rfl rfl (by kernel_rfl) Try.func10 (by kernel_rfl)
    (of_decide_eq_true (by kernel_rfl)) (by unfold Func.isWrapper; first | (rw [if_pos (by decide +kernel)]; kernel_rfl) | (rw [if_neg (by decide +kernel)]; exact ⟨rfl, rfl⟩))
    (fun os started H enc _ => liftedFnExactIsChain os started H enc)
end Go.Proofs.Ytlpjjhjbejjddaa
