/- Proved here: for every list of visits and every name the program and the reference agree on LastVisit, and the arguments are left as they were, without any condition. -/
import Derived.Test.YtllmillhdmknpaaSpent
import Derived.Test.YtllmillhdmknpaaVisitI
namespace Go.Proofs.Ytllmillhdmknpaa
open Go.ChangeShapes Go.WideShapes Go.ChangeAt Go.RowKit Go.Deep
open Go.ChangeMaps (open_string shut_string)
set_option linter.unusedVariables false

set_option maxHeartbeats 2000000 in
theorem lawFnExactLastVisit (a0 : Option Addr) (n0 c0 : Nat) (F0 : Nat → Int) (F1 : Nat → ByteArray) (F2 : Nat → Int) (F3 : Nat → Int) (a1 : ByteArray) (w : World) (h0 : InVisit w a0 n0 F0 F1 F2 F3) (h1 : a1.size ≤ maxLen) :
    Calls Try.prog 12 #[.slice a0 n0 c0, .string a1] w fun e w' => e = .returned (.bool true) ∧ Below w.heap.size w w' := by
  have H := Lib.hid h0
  clear h0
  have hS1 : a1.size ≤ maxLen := h1
  unfold maxLen at hS1
  by_cases hbg : a1.size ≤ 1048576
  case neg =>
    have hb2 : (1048576 : Int) < (a1.size : Int) := by omega
    go_enter Try.func12, Try.ntmps12
    go_wp2
    go_ret
    exact ⟨rfl, Below.refl _ _⟩
  obtain ⟨⟨v1, v2⟩, hv⟩ : ∃ p, lvRes n0 F0 F1 F2 F3 a1 = p := ⟨_, rfl⟩
  have HV := Lib.hid hv
  clear hv
  go_enter Try.func12, Try.ntmps12
  go_wp2_with fail
  refine (szVisitS_in _ _ _ F0 F1 F2 F3 _ H.out).mono ?_
  rintro e w1 ⟨r, hr, rfl, hb1⟩
  rcases hr with hr | ⟨hr0, hr1, hn⟩
  · go_wp2
    go_ret
    exact ⟨rfl, hb1⟩
  · have H1 := Lib.hid (H.out.below hb1)
    have HS1 := Lib.hid H.out.2.1
    go_wp2_with fail
    refine (toVisitS_in _ _ _ F0 F1 F2 F3 _ H1.out hn).mono ?_
    rintro e w2 ⟨rfl, R2, hb2⟩
    have HR2 := Lib.hid R2
    clear R2
    have B2 := hb1.trans (hb2.mono hb1.size)
    go_wp2_with fail
    refine (specLastVisit_any _ _ F0 F1 F2 F3 _ v1 v2 _ _ hn HR2.out HS1.out  HV.out).mono ?_
    rintro e w3 ⟨rfl, hb3⟩
    clear HR2
    have B3 := B2.trans (hb3.mono B2.size)
    have H3 := Lib.hid (H.out.below B3)
    go_wp2_with fail
    refine (toVisitS_in _ _ _ F0 F1 F2 F3 _ H3.out hn).mono ?_
    rintro e w4 ⟨rfl, R4, hb4⟩
    have HR4 := Lib.hid R4
    clear R4
    have B4 := B3.trans (hb4.mono B3.size)
    go_wp2_with fail
    refine (implLastVisit_any _ _ F0 F1 F2 F3 _ v1 v2 _ _ hn HR4.out HS1.out  HV.out).mono ?_
    rintro e w5 ⟨rfl, hb5⟩
    have B5 := B4.trans (hb5.mono B4.size)
    have H5 := Lib.hid (H.out.below B5)
    have HR5 := Lib.hid (row_below HR4.out hb5 HR4.out.lt)
    clear HR4
    go_wp2_with fail
    refine (toVisitS_in _ _ _ F0 F1 F2 F3 _ H5.out hn).mono ?_
    rintro e w6 ⟨rfl, R6, hb6⟩
    have HR6 := Lib.hid R6
    clear R6
    have HR7 := Lib.hid (row_below HR5.out hb6 HR5.out.lt)
    clear HR5
    have B6 := B5.trans (hb6.mono B5.size)
    go_wp2_with fail
    refine (eqVisitS_any _ _ _ F0 F1 F2 F3 _ _ _ hn HR7.out HR6.out).mono ?_
    rintro e w7 ⟨rfl, hb7⟩
    go_wp2
    go_ret
    exact ⟨rfl, B6.trans (hb7.mono B6.size)⟩

set_option maxRecDepth 100000 in
theorem liftedFnExactLastVisit (os : Os) (started : os.Started) (H : Type) (enc : TypeId × Value → H) :
    ReturnsInHanded {} Try.checked os 12 .any (Rows.fnExactLastVisitSpec.pre6 enc Try.prog Try.f12 Rows.fnExactLastVisitRow.domain false) (Rows.fnExactLastVisitSpec.post enc Try.prog Try.f12 false true false false) := by
  refine returnsInHanded_of_change (C := Try.checked) own started (by kernel_rfl) Try.func12
    (ChangeSpec.witness6 (enc := enc) (C := Try.checked) false ⟨#[], #[.slice none 0 0, .string ByteArray.empty], []⟩ 8 (by kernel_rfl) (by kernel_rfl) (by kernel_rfl) (by kernel_rfl)) ?_
  intro W base args ds gs before hval0 hW hcnd _
  have hval : ∀ (j : Nat) t v, Try.f12.params[j]? = some t → args[j]? = some v → Value.okWide Try.prog W .any base t v := hval0
  have hW' := hW
  obtain ⟨p, q, hA0, hV, rfl, hfz, hnd⟩ := hW
  have hA : DataW.TrodAll enc Try.prog W 0 (fun _ => true) true Try.f12.params.toList args.toList ds p := hA0
  rw [Try.params12] at hA hval
  obtain ⟨v0, vs0, d0, ds0, p0, q0, hargs, rfl, rfl, h0, r0⟩ := trodAll_cons hA
  obtain ⟨v1, vs1, d1, ds1, p1, q1, rfl, rfl, rfl, h1, r1⟩ := trodAll_cons r0
  obtain ⟨rfl, rfl, rfl⟩ := trodAll_nil r1
  obtain rfl : args = #[v0, v1] := by cases args; simp_all
  obtain ⟨rfl, rfl⟩ := trodVars_none hV
  obtain ⟨a0, len0, cap0, rfl⟩ := okWide_slice Try.underlying74 (hval 0 74 v0 rfl rfl)
  have k0 := h0
  have lt0 : ∀ x ∈ p0, x.block < W.heap.size := by obtain ⟨m, hm⟩ := k0; exact DataW.trod_lt m _ _ _ hm
  obtain ⟨F0, F1, F2, F3, w0⟩ : ∃ F0 F1 F2 F3, InVisit W a0 len0 F0 F1 F2 F3 := by
    obtain ⟨fuel, hf⟩ := h0
    exact inVisit_of (by simpa [Value.cells] using hf)
  obtain ⟨a1, rfl, rfl, rfl, w1⟩ := open_string Try.underlying9 (hval 1 9 v1 rfl rfl) h1
  clear hA0 hval0
  refine (lawFnExactLastVisit a0 len0 cap0 F0 F1 F2 F3 a1 W w0 w1).mono fun e W' ⟨he, bel⟩ => ?_
  subst he
  exact ⟨_, rfl, _, _, _, [], _, [], hW', trodAll_mk1 (shut_bool Try.underlying4 _), (trodAll_cons_mk (Below.trod laidOut (by kernel_rfl) (of_decide_eq_true (by kernel_rfl)) k0 bel lt0) (trodAll_cons_mk (shut_string Try.underlying9 w1) trodAll_mk0)), rfl, bel.frame _, fun h => by cases h⟩

/-- The law FnExactLastVisit returns true for every input, and leaves its arguments as they were. -/
theorem fnExactLastVisit_holds : Rows.FnExactLastVisitSaid :=
  OpenClaim.holds_of_wide 12 Try.f12 rfl rfl rfl rfl rfl rfl rfl ⟨rfl, rfl, rfl, rfl, rfl⟩ rfl rfl rfl rfl rfl (by kernel_rfl) Try.func12 (by kernel_rfl)
    (of_decide_eq_true (by kernel_rfl)) (by unfold Func.isWrapper; first | (rw [if_pos (by decide +kernel)]; kernel_rfl) | (rw [if_neg (by decide +kernel)]; exact ⟨rfl, rfl⟩))
    (fun os started H enc _ => liftedFnExactLastVisit os started H enc)
end Go.Proofs.Ytllmillhdmknpaa
