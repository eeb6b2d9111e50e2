/- Proved here: for every two policies the program and the reference agree on CrossAt, and the arguments are left as they were, without any condition. -/
import Derived.Test.YtabdpfagfempjaaCross
import Derived.Test.YtabdpfagfempjaaPolicyS
namespace Go.Proofs.Ytabdpfagfempjaa
open Go.ChangeShapes Go.WideShapes Go.ChangeAt Go.RowKit Go.Deep
open Go.ChangeMaps (open_string shut_string)
set_option linter.unusedVariables false

theorem toPolicy_below (x0 : ByteArray) (x1 : Int) (x2 : Int) (x3 : Int) (x4 : Int) (w : World) :
    Calls Try.prog 22 #[.agg #[.string x0, .int .i64 x1, .int .i64 x2, .int .i64 x3, .int .i64 x4]] w fun e w' => e = .returned (.agg #[.string x0, .int .i64 x1, .int .i64 x2, .int .i64 x3, .int .i64 x4]) ∧ Below w.heap.size w w' := (toPolicy_any x0 x1 x2 x3 x4 w).mono fun _ _ h => ⟨h.1, by rw [← h.2]; exact ((below_new _ _).alloc (by simp) _).alloc (by simp; omega) _⟩

set_option maxHeartbeats 4000000 in
theorem lawFnExactCrossAt (x0 : ByteArray) (x1 : Int) (x2 : Int) (x3 : Int) (x4 : Int) (x0_1 : ByteArray) (x1_1 : Int) (x2_1 : Int) (x3_1 : Int) (x4_1 : Int) (w : World) (h0 : IsPolicy x0 x1 x2 x3 x4) (h1 : IsPolicy x0_1 x1_1 x2_1 x3_1 x4_1) :
    Calls Try.prog 4 #[.agg #[.string x0, .int .i64 x1, .int .i64 x2, .int .i64 x3, .int .i64 x4], .agg #[.string x0_1, .int .i64 x1_1, .int .i64 x2_1, .int .i64 x3_1, .int .i64 x4_1]] w fun e w' => e = .returned (.bool true) ∧ Below w.heap.size w w' := by
  obtain ⟨hs0, _⟩ := h0
  obtain ⟨ht0, _⟩ := h1
  obtain ⟨⟨v1, v2⟩, hv⟩ : ∃ p, crRes x0 x1 x2 x3 x4 x0_1 x1_1 x2_1 x3_1 x4_1 = p := ⟨_, rfl⟩
  have HV := Lib.hid hv
  clear hv
  by_cases hsz : (x0.size : Int) ≤ 1048576
  case neg =>
    have hsz2 : 1048576 < (x0.size : Int) := by omega
    go_enter Try.func4, Try.ntmps4
    go_wp2_with (go_at_call 20; refine (szPolicy_no _ _ _ _ _ _ _ hs0 hsz2 (by omega) (by omega)).mono ?_; rintro e w1 ⟨rfl, rfl⟩)
    go_ret
    exact ⟨rfl, by repeat (first | exact below_new _ _ | refine Below.alloc ?_ (by simp; try omega) _)⟩
  by_cases hsz1 : (x0_1.size : Int) ≤ 1048576 - x0.size
  case neg =>
    have hsz2 : 1048576 - x0.size < (x0_1.size : Int) := by omega
    go_enter Try.func4, Try.ntmps4
    go_wp2_with fail
    refine (szPolicy_yes _ _ _ _ _ _ _ hsz (by omega)).mono ?_
    rintro e w1 ⟨rfl, rfl⟩
    go_wp2_with fail
    refine (szPolicy_no _ _ _ _ _ _ _ ht0 hsz2 (by omega) (by omega)).mono ?_
    rintro e w1 ⟨rfl, rfl⟩
    go_wp2
    go_ret
    exact ⟨rfl, by repeat (first | exact below_new _ _ | refine Below.alloc ?_ (by simp; try omega) _)⟩
  go_enter Try.func4, Try.ntmps4
  go_wp2_with fail
  refine (szPolicy_yes _ _ _ _ _ _ _ hsz (by omega)).mono ?_
  rintro e w1 ⟨rfl, hw1⟩
  have B1 : Below ((w.alloc (.cells #[.string x0, .int .i64 x1, .int .i64 x2, .int .i64 x3, .int .i64 x4] 30)).alloc (.cells #[.string x0_1, .int .i64 x1_1, .int .i64 x2_1, .int .i64 x3_1, .int .i64 x4_1] 30)).heap.size ((w.alloc (.cells #[.string x0, .int .i64 x1, .int .i64 x2, .int .i64 x3, .int .i64 x4] 30)).alloc (.cells #[.string x0_1, .int .i64 x1_1, .int .i64 x2_1, .int .i64 x3_1, .int .i64 x4_1] 30)) w1 := by subst hw1; exact below_new _ _
  clear hw1
  have z0 : w1.cell? ⟨w.heap.size, 0, none⟩ = some (.string x0) := (bcell B1 _ _ (by simp; omega)).trans (by simp)
  have z1 : w1.cell? ⟨w.heap.size, 1, none⟩ = some (.int .i64 x1) := (bcell B1 _ _ (by simp; omega)).trans (by simp)
  have z2 : w1.cell? ⟨w.heap.size, 2, none⟩ = some (.int .i64 x2) := (bcell B1 _ _ (by simp; omega)).trans (by simp)
  have z3 : w1.cell? ⟨w.heap.size, 3, none⟩ = some (.int .i64 x3) := (bcell B1 _ _ (by simp; omega)).trans (by simp)
  have z4 : w1.cell? ⟨w.heap.size, 4, none⟩ = some (.int .i64 x4) := (bcell B1 _ _ (by simp; omega)).trans (by simp)
  have zb0 : w1.cell? ⟨w.heap.size + 1, 0, none⟩ = some (.string x0_1) := (bcell B1 _ _ (by simp)).trans (by simp)
  have zb1 : w1.cell? ⟨w.heap.size + 1, 1, none⟩ = some (.int .i64 x1_1) := (bcell B1 _ _ (by simp)).trans (by simp)
  have zb2 : w1.cell? ⟨w.heap.size + 1, 2, none⟩ = some (.int .i64 x2_1) := (bcell B1 _ _ (by simp)).trans (by simp)
  have zb3 : w1.cell? ⟨w.heap.size + 1, 3, none⟩ = some (.int .i64 x3_1) := (bcell B1 _ _ (by simp)).trans (by simp)
  have zb4 : w1.cell? ⟨w.heap.size + 1, 4, none⟩ = some (.int .i64 x4_1) := (bcell B1 _ _ (by simp)).trans (by simp)
  go_wp2_with fail
  refine (szPolicy_yes _ _ _ _ _ _ _ hsz1 (by omega)).mono ?_
  rintro e w2 ⟨rfl, hw2⟩
  have B2 : Below ((w.alloc (.cells #[.string x0, .int .i64 x1, .int .i64 x2, .int .i64 x3, .int .i64 x4] 30)).alloc (.cells #[.string x0_1, .int .i64 x1_1, .int .i64 x2_1, .int .i64 x3_1, .int .i64 x4_1] 30)).heap.size ((w.alloc (.cells #[.string x0, .int .i64 x1, .int .i64 x2, .int .i64 x3, .int .i64 x4] 30)).alloc (.cells #[.string x0_1, .int .i64 x1_1, .int .i64 x2_1, .int .i64 x3_1, .int .i64 x4_1] 30)) w2 := by subst hw2; exact B1.alloc B1.size _
  clear hw2 B1 z0 zb0 z1 zb1 z2 zb2 z3 zb3 z4 zb4
  have z0 : w2.cell? ⟨w.heap.size, 0, none⟩ = some (.string x0) := (bcell B2 _ _ (by simp; omega)).trans (by simp)
  have z1 : w2.cell? ⟨w.heap.size, 1, none⟩ = some (.int .i64 x1) := (bcell B2 _ _ (by simp; omega)).trans (by simp)
  have z2 : w2.cell? ⟨w.heap.size, 2, none⟩ = some (.int .i64 x2) := (bcell B2 _ _ (by simp; omega)).trans (by simp)
  have z3 : w2.cell? ⟨w.heap.size, 3, none⟩ = some (.int .i64 x3) := (bcell B2 _ _ (by simp; omega)).trans (by simp)
  have z4 : w2.cell? ⟨w.heap.size, 4, none⟩ = some (.int .i64 x4) := (bcell B2 _ _ (by simp; omega)).trans (by simp)
  have zb0 : w2.cell? ⟨w.heap.size + 1, 0, none⟩ = some (.string x0_1) := (bcell B2 _ _ (by simp)).trans (by simp)
  have zb1 : w2.cell? ⟨w.heap.size + 1, 1, none⟩ = some (.int .i64 x1_1) := (bcell B2 _ _ (by simp)).trans (by simp)
  have zb2 : w2.cell? ⟨w.heap.size + 1, 2, none⟩ = some (.int .i64 x2_1) := (bcell B2 _ _ (by simp)).trans (by simp)
  have zb3 : w2.cell? ⟨w.heap.size + 1, 3, none⟩ = some (.int .i64 x3_1) := (bcell B2 _ _ (by simp)).trans (by simp)
  have zb4 : w2.cell? ⟨w.heap.size + 1, 4, none⟩ = some (.int .i64 x4_1) := (bcell B2 _ _ (by simp)).trans (by simp)
  have hlw : w.heap.size + 1 < w2.heap.size := by have := B2.size; simp at this; omega
  go_wp2_with fail
  have y0 := Ext.cell (W := w2) (b := w.heap.size) (o := 0) (u := .string x0) z0 (by omega)
  have y1 := Ext.cell (W := w2) (b := w.heap.size) (o := 1) (u := .int .i64 x1) z1 (by omega)
  have y2 := Ext.cell (W := w2) (b := w.heap.size) (o := 2) (u := .int .i64 x2) z2 (by omega)
  have y3 := Ext.cell (W := w2) (b := w.heap.size) (o := 3) (u := .int .i64 x3) z3 (by omega)
  have y4 := Ext.cell (W := w2) (b := w.heap.size) (o := 4) (u := .int .i64 x4) z4 (by omega)
  have yb0 := Ext.cell (W := w2) (b := w.heap.size + 1) (o := 0) (u := .string x0_1) zb0 hlw
  have yb1 := Ext.cell (W := w2) (b := w.heap.size + 1) (o := 1) (u := .int .i64 x1_1) zb1 hlw
  have yb2 := Ext.cell (W := w2) (b := w.heap.size + 1) (o := 2) (u := .int .i64 x2_1) zb2 hlw
  have yb3 := Ext.cell (W := w2) (b := w.heap.size + 1) (o := 3) (u := .int .i64 x3_1) zb3 hlw
  have yb4 := Ext.cell (W := w2) (b := w.heap.size + 1) (o := 4) (u := .int .i64 x4_1) zb4 hlw
  refine wp_region_ext (by kernel_rfl) (by kernel_rfl) ?_
  repeat (go_big_quiet_step (first | (go_at_call 22; exact ext_call (toPolicy_below _ _ _ _ _ _)) | (go_at_call 21; exact ext_call (specCrossAt_any _ _ _ _ _ _ _ _ _ _ v1 v2 _ hs0 ht0 HV.out))))
  refine wpQuiet_nil ?_
  intro w3 hx
  obtain ⟨x, hx⟩ := hx
  have hW := x.h
  rw [← hx] at hW
  have Bw3 := B2.trans (hW.mono B2.size)
  clear hx x hW hlw z0 zb0 z1 zb1 z2 zb2 z3 zb3 z4 zb4 y0 yb0 y1 yb1 y2 yb2 y3 yb3 y4 yb4
  have z0 : w3.cell? ⟨w.heap.size, 0, none⟩ = some (.string x0) := (bcell Bw3 _ _ (by simp; omega)).trans (by simp)
  have z1 : w3.cell? ⟨w.heap.size, 1, none⟩ = some (.int .i64 x1) := (bcell Bw3 _ _ (by simp; omega)).trans (by simp)
  have z2 : w3.cell? ⟨w.heap.size, 2, none⟩ = some (.int .i64 x2) := (bcell Bw3 _ _ (by simp; omega)).trans (by simp)
  have z3 : w3.cell? ⟨w.heap.size, 3, none⟩ = some (.int .i64 x3) := (bcell Bw3 _ _ (by simp; omega)).trans (by simp)
  have z4 : w3.cell? ⟨w.heap.size, 4, none⟩ = some (.int .i64 x4) := (bcell Bw3 _ _ (by simp; omega)).trans (by simp)
  have zb0 : w3.cell? ⟨w.heap.size + 1, 0, none⟩ = some (.string x0_1) := (bcell Bw3 _ _ (by simp)).trans (by simp)
  have zb1 : w3.cell? ⟨w.heap.size + 1, 1, none⟩ = some (.int .i64 x1_1) := (bcell Bw3 _ _ (by simp)).trans (by simp)
  have zb2 : w3.cell? ⟨w.heap.size + 1, 2, none⟩ = some (.int .i64 x2_1) := (bcell Bw3 _ _ (by simp)).trans (by simp)
  have zb3 : w3.cell? ⟨w.heap.size + 1, 3, none⟩ = some (.int .i64 x3_1) := (bcell Bw3 _ _ (by simp)).trans (by simp)
  have zb4 : w3.cell? ⟨w.heap.size + 1, 4, none⟩ = some (.int .i64 x4_1) := (bcell Bw3 _ _ (by simp)).trans (by simp)
  have hlw : w.heap.size + 1 < w3.heap.size := by have := Bw3.size; simp at this; omega
  go_wp2_with fail
  have y0 := Ext.cell (W := w3) (b := w.heap.size) (o := 0) (u := .string x0) z0 (by omega)
  have y1 := Ext.cell (W := w3) (b := w.heap.size) (o := 1) (u := .int .i64 x1) z1 (by omega)
  have y2 := Ext.cell (W := w3) (b := w.heap.size) (o := 2) (u := .int .i64 x2) z2 (by omega)
  have y3 := Ext.cell (W := w3) (b := w.heap.size) (o := 3) (u := .int .i64 x3) z3 (by omega)
  have y4 := Ext.cell (W := w3) (b := w.heap.size) (o := 4) (u := .int .i64 x4) z4 (by omega)
  have yb0 := Ext.cell (W := w3) (b := w.heap.size + 1) (o := 0) (u := .string x0_1) zb0 hlw
  have yb1 := Ext.cell (W := w3) (b := w.heap.size + 1) (o := 1) (u := .int .i64 x1_1) zb1 hlw
  have yb2 := Ext.cell (W := w3) (b := w.heap.size + 1) (o := 2) (u := .int .i64 x2_1) zb2 hlw
  have yb3 := Ext.cell (W := w3) (b := w.heap.size + 1) (o := 3) (u := .int .i64 x3_1) zb3 hlw
  have yb4 := Ext.cell (W := w3) (b := w.heap.size + 1) (o := 4) (u := .int .i64 x4_1) zb4 hlw
  refine wp_region_ext (by kernel_rfl) (by kernel_rfl) ?_
  repeat (go_big_quiet_step (first | (go_at_call 22; exact ext_call (toPolicy_below _ _ _ _ _ _)) | (go_at_call 23; exact ext_call (implCrossAt_any _ _ _ _ _ _ _ _ _ _ v1 v2 _ hs0 ht0 HV.out))))
  refine wpQuiet_nil ?_
  intro w4 hx
  obtain ⟨x, hx⟩ := hx
  have hW := x.h
  rw [← hx] at hW
  have Bw4 := Bw3.trans (hW.mono Bw3.size)
  clear hx x hW hlw z0 zb0 z1 zb1 z2 zb2 z3 zb3 z4 zb4 y0 yb0 y1 yb1 y2 yb2 y3 yb3 y4 yb4
  go_wp2
  go_ret
  exact ⟨rfl, ((below_new w _).alloc (by simp) _).trans (Bw4.mono (by simp; omega))⟩

set_option maxRecDepth 100000 in
theorem liftedFnExactCrossAt (os : Os) (started : os.Started) (H : Type) (enc : TypeId × Value → H) :
    ReturnsInHanded {} Try.checked os 4 .any (Rows.fnExactCrossAtSpec.pre6 enc Try.prog Try.f4 Rows.fnExactCrossAtRow.domain false) (Rows.fnExactCrossAtSpec.post enc Try.prog Try.f4 false true false false) := by
  refine returnsInHanded_of_change (C := Try.checked) own started (by kernel_rfl) Try.func4
    (ChangeSpec.witness6 (enc := enc) (C := Try.checked) false ⟨#[], #[.agg #[.string ByteArray.empty, .int .i64 0, .int .i64 0, .int .i64 0, .int .i64 0], .agg #[.string ByteArray.empty, .int .i64 0, .int .i64 0, .int .i64 0, .int .i64 0]], []⟩ 8 (by kernel_rfl) (by kernel_rfl) (by kernel_rfl) (by kernel_rfl)) ?_
  intro W base args ds gs before hval0 hW hcnd _
  have hval : ∀ (j : Nat) t v, Try.f4.params[j]? = some t → args[j]? = some v → Value.okWide Try.prog W .any base t v := hval0
  have hW' := hW
  obtain ⟨p, q, hA0, hV, rfl, hfz, hnd⟩ := hW
  have hA : DataW.TrodAll enc Try.prog W 0 (fun _ => true) true Try.f4.params.toList args.toList ds p := hA0
  rw [Try.params4] at hA hval
  obtain ⟨v0, vs0, d0, ds0, p0, q0, hargs, rfl, rfl, h0, r0⟩ := trodAll_cons hA
  obtain ⟨v1, vs1, d1, ds1, p1, q1, rfl, rfl, rfl, h1, r1⟩ := trodAll_cons r0
  obtain ⟨rfl, rfl, rfl⟩ := trodAll_nil r1
  obtain rfl : args = #[v0, v1] := by cases args; simp_all
  obtain ⟨rfl, rfl⟩ := trodVars_none hV
  have k0 := h0
  have lt0 : ∀ x ∈ p0, x.block < W.heap.size := by obtain ⟨m, hm⟩ := k0; exact DataW.trod_lt m _ _ _ hm
  obtain ⟨x0, x1, x2, x3, x4, rfl, w0⟩ : ∃ (x0 : ByteArray) (x1 : Int) (x2 : Int) (x3 : Int) (x4 : Int), v0 = .agg #[.string x0, .int .i64 x1, .int .i64 x2, .int .i64 x3, .int .i64 x4] ∧ IsPolicy x0 x1 x2 x3 x4 := by
    exact isPolicy_of (hval 0 30 v0 rfl rfl) h0
  have k1 := h1
  have lt1 : ∀ x ∈ p1, x.block < W.heap.size := by obtain ⟨m, hm⟩ := k1; exact DataW.trod_lt m _ _ _ hm
  obtain ⟨x0_1, x1_1, x2_1, x3_1, x4_1, rfl, w1⟩ : ∃ (x0 : ByteArray) (x1 : Int) (x2 : Int) (x3 : Int) (x4 : Int), v1 = .agg #[.string x0, .int .i64 x1, .int .i64 x2, .int .i64 x3, .int .i64 x4] ∧ IsPolicy x0 x1 x2 x3 x4 := by
    exact isPolicy_of (hval 1 30 v1 rfl rfl) h1
  clear hA0 hval0
  refine (lawFnExactCrossAt x0 x1 x2 x3 x4 x0_1 x1_1 x2_1 x3_1 x4_1 W w0 w1).mono fun e W' ⟨he, bel⟩ => ?_
  subst he
  exact ⟨_, rfl, _, _, _, [], _, [], hW', trodAll_mk1 (shut_bool Try.underlying4 _), (trodAll_cons_mk (Below.trod laidOut (by kernel_rfl) (of_decide_eq_true (by kernel_rfl)) k0 bel lt0) (trodAll_cons_mk (Below.trod laidOut (by kernel_rfl) (of_decide_eq_true (by kernel_rfl)) k1 bel lt1) trodAll_mk0)), rfl, bel.frame _, fun h => by cases h⟩

/-- The law FnExactCrossAt returns true for every input, and leaves its arguments as they were. -/
theorem fnExactCrossAt_holds : Rows.FnExactCrossAtSaid :=
  OpenClaim.holds_of_wide 4 Try.f4 rfl rfl rfl rfl rfl rfl rfl ⟨rfl, rfl, rfl, rfl, rfl⟩ rfl rfl rfl rfl rfl (by kernel_rfl) Try.func4 (by kernel_rfl)
    (of_decide_eq_true (by kernel_rfl)) (by unfold Func.isWrapper; first | (rw [if_pos (by decide +kernel)]; kernel_rfl) | (rw [if_neg (by decide +kernel)]; exact ⟨rfl, rfl⟩))
    (fun os started H enc _ => liftedFnExactCrossAt os started H enc)
end Go.Proofs.Ytabdpfagfempjaa
