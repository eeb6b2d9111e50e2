/- Proved here: for every policy and every list of damages the program and the reference agree on YearCost, and the arguments are left as they were, without any condition. -/
import Derived.Test.YtbhiobmkgiokiaaYcost
import Derived.Test.YtbhiobmkgiokiaaPolicyS
namespace Go.Proofs.Ytbhiobmkgiokiaa
open Go.ChangeShapes Go.WideShapes Go.ChangeAt Go.RowKit Go.Deep
open Go.ChangeMaps (open_string shut_string)
set_option linter.unusedVariables false

set_option maxHeartbeats 4000000 in
theorem lawFnExactYearCost (x0 : ByteArray) (x1 : Int) (x2 : Int) (x3 : Int) (x4 : Int) (a1 : Option Addr) (n1 c1 : Nat) (z1 : Nat → Int) (w : World) (h0 : IsPolicy x0 x1 x2 x3 x4) (h1 : InInts w a1 n1 z1) :
    Calls Try.prog 9 #[.agg #[.string x0, .int .i64 x1, .int .i64 x2, .int .i64 x3, .int .i64 x4], .slice a1 n1 c1] w fun e w' => e = .returned (.bool true) ∧ Below w.heap.size w w' := by
  obtain ⟨hs0, _⟩ := h0
  have HI := Lib.hid h1
  have him : n1 ≤ maxLen := h1.2.1
  clear h1
  unfold maxLen at him
  obtain ⟨⟨v1, v2⟩, hv⟩ : ∃ p, ycRes x0 x1 x2 x3 x4 n1 z1 = p := ⟨_, rfl⟩
  have HV := Lib.hid hv
  clear hv
  by_cases hm : n1 ≤ 1048576
  case neg =>
    have hm2 : (1048576 : Int) < (n1 : Int) := by omega
    go_enter Try.func9, Try.ntmps9
    go_wp2
    go_ret
    exact ⟨rfl, by repeat (first | exact Below.refl _ _ | exact below_new _ _)⟩
  by_cases hsz : (x0.size : Int) ≤ 1048576
  case neg =>
    have hsz2 : 1048576 < (x0.size : Int) := by omega
    go_enter Try.func9, Try.ntmps9
    go_wp2_with (go_at_call 41; refine (szPolicy_no _ _ _ _ _ _ _ hs0 hsz2 (by omega) (by omega)).mono ?_; rintro e w1 ⟨rfl, rfl⟩)
    go_ret
    exact ⟨rfl, (below_new _ _).alloc (by simp) _⟩
  go_enter Try.func9, Try.ntmps9
  go_wp2_with fail
  refine (szPolicy_yes _ _ _ _ _ _ _ hsz (by omega)).mono ?_
  rintro e w1 ⟨rfl, hw1⟩
  have B1 : Below (w.alloc (.cells #[.string x0, .int .i64 x1, .int .i64 x2, .int .i64 x3, .int .i64 x4] 63)).heap.size (w.alloc (.cells #[.string x0, .int .i64 x1, .int .i64 x2, .int .i64 x3, .int .i64 x4] 63)) w1 := by subst hw1; exact below_new _ _
  clear hw1
  have z0 : w1.cell? ⟨w.heap.size, 0, none⟩ = some (.string x0) := (bcell B1 _ _ (by simp)).trans (by simp)
  have z1 : w1.cell? ⟨w.heap.size, 1, none⟩ = some (.int .i64 x1) := (bcell B1 _ _ (by simp)).trans (by simp)
  have z2 : w1.cell? ⟨w.heap.size, 2, none⟩ = some (.int .i64 x2) := (bcell B1 _ _ (by simp)).trans (by simp)
  have z3 : w1.cell? ⟨w.heap.size, 3, none⟩ = some (.int .i64 x3) := (bcell B1 _ _ (by simp)).trans (by simp)
  have z4 : w1.cell? ⟨w.heap.size, 4, none⟩ = some (.int .i64 x4) := (bcell B1 _ _ (by simp)).trans (by simp)
  go_wp2_with fail
  refine (toPolicy_any _ _ _ _ _ _).mono ?_
  rintro e w2 ⟨rfl, hw2⟩
  have B2 : Below w1.heap.size w1 w2 := by subst hw2; exact ((below_new _ _).alloc (by simp) _).alloc (by simp; omega) _
  clear hw2
  clear z0 z1 z2 z3 z4
  have C2 := B1.trans (B2.mono B1.size)
  have D2 := (below_new w (.cells #[.string x0, .int .i64 x1, .int .i64 x2, .int .i64 x3, .int .i64 x4] 63)).trans (C2.mono (by simp))
  have I2 := Lib.hid (HI.out.below D2)
  go_wp2_with fail
  refine (toInt64S_in _ _ _ z1 _ I2.out hm).mono ?_
  rintro e w3 ⟨rfl, R3, hb3⟩
  have HR3 := Lib.hid R3
  clear R3
  have C3 := C2.trans (hb3.mono C2.size)
  go_wp2_with fail
  refine (specYearCost_any _ _ _ _ _ _ _ z1 _ v1 v2 _ hs0 hm HR3.out HV.out).mono ?_
  rintro e w4 ⟨rfl, hb4⟩
  clear HR3
  have C4 := C3.trans (hb4.mono C3.size)
  have D4 := (below_new w (.cells #[.string x0, .int .i64 x1, .int .i64 x2, .int .i64 x3, .int .i64 x4] 63)).trans (C4.mono (by simp))
  have I4 := Lib.hid (HI.out.below D4)
  go_wp2_with fail
  refine (toInt64S_in _ _ _ z1 _ I4.out hm).mono ?_
  rintro e w5 ⟨rfl, R5, hb5⟩
  have HR5 := Lib.hid R5
  clear R5
  have C5 := C4.trans (hb5.mono C4.size)
  have z0 : w5.cell? ⟨w.heap.size, 0, none⟩ = some (.string x0) := (bcell C5 _ _ (by simp)).trans (by simp)
  have z1 : w5.cell? ⟨w.heap.size, 1, none⟩ = some (.int .i64 x1) := (bcell C5 _ _ (by simp)).trans (by simp)
  have z2 : w5.cell? ⟨w.heap.size, 2, none⟩ = some (.int .i64 x2) := (bcell C5 _ _ (by simp)).trans (by simp)
  have z3 : w5.cell? ⟨w.heap.size, 3, none⟩ = some (.int .i64 x3) := (bcell C5 _ _ (by simp)).trans (by simp)
  have z4 : w5.cell? ⟨w.heap.size, 4, none⟩ = some (.int .i64 x4) := (bcell C5 _ _ (by simp)).trans (by simp)
  go_wp2_with fail
  refine (toPolicy_any _ _ _ _ _ _).mono ?_
  rintro e w6 ⟨rfl, hw6⟩
  have B6 : Below w5.heap.size w5 w6 := by subst hw6; exact ((below_new _ _).alloc (by simp) _).alloc (by simp; omega) _
  clear hw6
  clear z0 z1 z2 z3 z4
  have C6 := C5.trans (B6.mono C5.size)
  have HR6 := Lib.hid (row_below HR5.out B6 HR5.out.lt)
  go_wp2_with fail
  refine (implYearCost_any _ _ _ _ _ _ _ z1 _ v1 v2 _ hs0 hm HR6.out HV.out).mono ?_
  rintro e w7 ⟨rfl, hb7⟩
  have HR7 := Lib.hid (row_below HR6.out hb7 HR6.out.lt)
  clear HR5 HR6
  have C7 := C6.trans (hb7.mono C6.size)
  have D7 := (below_new w (.cells #[.string x0, .int .i64 x1, .int .i64 x2, .int .i64 x3, .int .i64 x4] 63)).trans (C7.mono (by simp))
  have I7 := Lib.hid (HI.out.below D7)
  go_wp2_with fail
  refine (toInt64S_in _ _ _ z1 _ I7.out hm).mono ?_
  rintro e w8 ⟨rfl, R8, hb8⟩
  have HR8 := Lib.hid R8
  clear R8
  have HR9 := Lib.hid (row_below HR7.out hb8 HR7.out.lt)
  have C8 := C7.trans (hb8.mono C7.size)
  go_wp2_with fail
  refine (eqInt64S_any _ _ _ z1 _ _ _ hm HR9.out HR8.out).mono ?_
  rintro e w9 ⟨rfl, hb9⟩
  go_wp2
  go_ret
  exact ⟨rfl, (below_new w _).trans ((C8.trans (hb9.mono C8.size)).mono (by simp))⟩

set_option maxRecDepth 100000 in
theorem liftedFnExactYearCost (os : Os) (started : os.Started) (H : Type) (enc : TypeId × Value → H) :
    ReturnsInHanded {} Try.checked os 9 .any (Rows.fnExactYearCostSpec.pre6 enc Try.prog Try.f9 Rows.fnExactYearCostRow.domain false) (Rows.fnExactYearCostSpec.post enc Try.prog Try.f9 false true false false) := by
  refine returnsInHanded_of_change (C := Try.checked) own started (by kernel_rfl) Try.func9
    (ChangeSpec.witness6 (enc := enc) (C := Try.checked) false ⟨#[], #[.agg #[.string ByteArray.empty, .int .i64 0, .int .i64 0, .int .i64 0, .int .i64 0], .slice none 0 0], []⟩ 8 (by kernel_rfl) (by kernel_rfl) (by kernel_rfl) (by kernel_rfl)) ?_
  intro W base args ds gs before hval0 hW hcnd _
  have hval : ∀ (j : Nat) t v, Try.f9.params[j]? = some t → args[j]? = some v → Value.okWide Try.prog W .any base t v := hval0
  have hW' := hW
  obtain ⟨p, q, hA0, hV, rfl, hfz, hnd⟩ := hW
  have hA : DataW.TrodAll enc Try.prog W 0 (fun _ => true) true Try.f9.params.toList args.toList ds p := hA0
  rw [Try.params9] at hA hval
  obtain ⟨v0, vs0, d0, ds0, p0, q0, hargs, rfl, rfl, h0, r0⟩ := trodAll_cons hA
  obtain ⟨v1, vs1, d1, ds1, p1, q1, rfl, rfl, rfl, h1, r1⟩ := trodAll_cons r0
  obtain ⟨rfl, rfl, rfl⟩ := trodAll_nil r1
  obtain rfl : args = #[v0, v1] := by cases args; simp_all
  obtain ⟨rfl, rfl⟩ := trodVars_none hV
  have k0 := h0
  have lt0 : ∀ x ∈ p0, x.block < W.heap.size := by obtain ⟨m, hm⟩ := k0; exact DataW.trod_lt m _ _ _ hm
  obtain ⟨x0, x1, x2, x3, x4, rfl, w0⟩ : ∃ (x0 : ByteArray) (x1 : Int) (x2 : Int) (x3 : Int) (x4 : Int), v0 = .agg #[.string x0, .int .i64 x1, .int .i64 x2, .int .i64 x3, .int .i64 x4] ∧ IsPolicy x0 x1 x2 x3 x4 := by
    exact isPolicy_of (hval 0 63 v0 rfl rfl) h0
  obtain ⟨a1, len1, cap1, rfl⟩ := okWide_slice Try.underlying64 (hval 1 64 v1 rfl rfl)
  have k1 := h1
  have lt1 : ∀ x ∈ p1, x.block < W.heap.size := by obtain ⟨m, hm⟩ := k1; exact DataW.trod_lt m _ _ _ hm
  obtain ⟨z1, w1⟩ : ∃ z, InInts W a1 len1 z := by
    obtain ⟨fuel, hf⟩ := h1
    exact inInts_of (by simpa [Value.cells] using hf)
  clear hA0 hval0
  refine (lawFnExactYearCost x0 x1 x2 x3 x4 a1 len1 cap1 z1 W w0 w1).mono fun e W' ⟨he, bel⟩ => ?_
  subst he
  exact ⟨_, rfl, _, _, _, [], _, [], hW', trodAll_mk1 (shut_bool Try.underlying4 _), (trodAll_cons_mk (Below.trod laidOut (by kernel_rfl) (of_decide_eq_true (by kernel_rfl)) k0 bel lt0) (trodAll_cons_mk (Below.trod laidOut (by kernel_rfl) (of_decide_eq_true (by kernel_rfl)) k1 bel lt1) trodAll_mk0)), rfl, bel.frame _, fun h => by cases h⟩

/-- The law FnExactYearCost returns true for every input, and leaves its arguments as they were. -/
theorem fnExactYearCost_holds : Rows.FnExactYearCostSaid :=
  OpenClaim.holds_of_wide 9 Try.f9 rfl rfl rfl rfl rfl rfl rfl ⟨rfl, rfl, rfl, rfl, rfl⟩ rfl rfl rfl rfl rfl (by kernel_rfl) Try.func9 (by kernel_rfl)
    (of_decide_eq_true (by kernel_rfl)) (by unfold Func.isWrapper; first | (rw [if_pos (by decide +kernel)]; kernel_rfl) | (rw [if_neg (by decide +kernel)]; exact ⟨rfl, rfl⟩))
    (fun os started H enc _ => liftedFnExactYearCost os started H enc)
end Go.Proofs.Ytbhiobmkgiokiaa
