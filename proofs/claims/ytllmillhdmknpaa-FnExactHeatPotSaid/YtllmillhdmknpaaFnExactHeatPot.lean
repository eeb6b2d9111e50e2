/- Proved here: for every pot, every heat and every number of hours the program and the reference agree on HeatPot, and the arguments are left as they were, without any condition. -/
import Derived.Test.YtllmillhdmknpaaHeat
import Derived.Test.YtllmillhdmknpaaPotS
namespace Go.Proofs.Ytllmillhdmknpaa
open Go.ChangeShapes Go.WideShapes Go.ChangeAt Go.RowKit Go.Deep
open Go.ChangeMaps (open_string shut_string)
set_option linter.unusedVariables false

set_option maxHeartbeats 4000000 in
theorem lawFnExactHeatPot (x0 : ByteArray) (x1 : Int) (x2 : Int) (x3 : Int) (x4 : Int) (a1 : Int) (a2 : Int) (w : World) (h0 : IsPot x0 x1 x2 x3 x4) (h1 : (Lit.int .i64 a1).wf = true) (h2 : (Lit.int .i64 a2).wf = true) :
    Calls Try.prog 4 #[.agg #[.string x0, .int .i64 x1, .int .i64 x2, .int .i64 x3, .int .i64 x4], .int .i64 a1, .int .i64 a2] w fun e w' => e = .returned (.bool true) ∧ Below w.heap.size w w' := by
  obtain ⟨hs0, _⟩ := h0
  obtain ⟨⟨y0, y1, y2, y3, y4, c⟩, hv⟩ : ∃ p, heatRes x0 x1 x2 x3 x4 a1 a2 = p := ⟨_, rfl⟩
  have HV := Lib.hid hv
  clear hv
  by_cases hsz : (x0.size : Int) ≤ 1048576
  case neg =>
    have hsz2 : 1048576 < (x0.size : Int) := by omega
    go_enter Try.func4, Try.ntmps4
    go_wp2_with (go_at_call 14; refine (szPot_no _ _ _ _ _ _ _ hs0 hsz2 (by omega) (by omega)).mono ?_; rintro e w1 ⟨rfl, rfl⟩)
    go_ret
    exact ⟨rfl, (below_new _ _).alloc (by simp) _⟩
  go_enter Try.func4, Try.ntmps4
  go_wp2_with fail
  refine (szPot_yes _ _ _ _ _ _ _ hsz (by omega)).mono ?_
  rintro e w1 ⟨rfl, hw1⟩
  have B1 : Below (w.alloc (.cells #[.string x0, .int .i64 x1, .int .i64 x2, .int .i64 x3, .int .i64 x4] 23)).heap.size (w.alloc (.cells #[.string x0, .int .i64 x1, .int .i64 x2, .int .i64 x3, .int .i64 x4] 23)) w1 := by subst hw1; exact below_new _ _
  clear hw1
  have z0 : w1.cell? ⟨w.heap.size, 0, none⟩ = some (.string x0) := (bcell B1 _ _ (by simp)).trans (by simp)
  have z1 : w1.cell? ⟨w.heap.size, 1, none⟩ = some (.int .i64 x1) := (bcell B1 _ _ (by simp)).trans (by simp)
  have z2 : w1.cell? ⟨w.heap.size, 2, none⟩ = some (.int .i64 x2) := (bcell B1 _ _ (by simp)).trans (by simp)
  have z3 : w1.cell? ⟨w.heap.size, 3, none⟩ = some (.int .i64 x3) := (bcell B1 _ _ (by simp)).trans (by simp)
  have z4 : w1.cell? ⟨w.heap.size, 4, none⟩ = some (.int .i64 x4) := (bcell B1 _ _ (by simp)).trans (by simp)
  go_wp2_with fail
  refine (toPot_any _ _ _ _ _ _).mono ?_
  rintro e w2 ⟨rfl, hw2⟩
  have B2 : Below w1.heap.size w1 w2 := by subst hw2; exact ((below_new _ _).alloc (by simp) _).alloc (by first | (simp; done) | (simp; omega)) _
  clear hw2
  clear z0 z1 z2 z3 z4
  have C2 := B1.trans (B2.mono B1.size)
  go_wp2_with fail
  refine (specHeat_any _ _ _ _ _ _ _ y0 y1 y2 y3 y4 c _ hs0 HV.out).mono ?_
  rintro e w3 ⟨rfl, B3⟩
  have C3 := C2.trans (B3.mono C2.size)
  have C3a := C3.alloc C3.size (.cells #[.string y0, .int .i64 y1, .int .i64 y2, .int .i64 y3, .int .i64 y4] 27)
  have hl3 : w.heap.size < w3.heap.size := by have := C3.size; simp at this; omega
  have z0 : w3.cell? ⟨w.heap.size, 0, none⟩ = some (.string x0) := (bcell C3 _ _ (by simp)).trans (by simp)
  have z1 : w3.cell? ⟨w.heap.size, 1, none⟩ = some (.int .i64 x1) := (bcell C3 _ _ (by simp)).trans (by simp)
  have z2 : w3.cell? ⟨w.heap.size, 2, none⟩ = some (.int .i64 x2) := (bcell C3 _ _ (by simp)).trans (by simp)
  have z3 : w3.cell? ⟨w.heap.size, 3, none⟩ = some (.int .i64 x3) := (bcell C3 _ _ (by simp)).trans (by simp)
  have z4 : w3.cell? ⟨w.heap.size, 4, none⟩ = some (.int .i64 x4) := (bcell C3 _ _ (by simp)).trans (by simp)
  go_wp2_with fail
  refine (toPot_any _ _ _ _ _ _).mono ?_
  rintro e w4 ⟨rfl, hw4⟩
  have B4 : Below (w3.alloc (.cells #[.string y0, .int .i64 y1, .int .i64 y2, .int .i64 y3, .int .i64 y4] 27)).heap.size (w3.alloc (.cells #[.string y0, .int .i64 y1, .int .i64 y2, .int .i64 y3, .int .i64 y4] 27)) w4 := by subst hw4; exact ((below_new _ _).alloc (by simp) _).alloc (by first | (simp; done) | (simp; omega)) _
  clear hw4
  clear z0 z1 z2 z3 z4
  have C4 := C3a.trans (B4.mono C3a.size)
  go_wp2_with fail
  refine (implHeat_any _ _ _ _ _ _ _ y0 y1 y2 y3 y4 c _ hs0 HV.out).mono ?_
  rintro e w5 ⟨rfl, B5⟩
  have B45 := B4.trans (B5.mono B4.size)
  have C5 := C4.trans (B5.mono C4.size)
  have C5a := C5.alloc C5.size (.cells #[.string y0, .int .i64 y1, .int .i64 y2, .int .i64 y3, .int .i64 y4] 27)
  have hl5 : w3.heap.size < w5.heap.size := by have := B45.size; simp at this; omega
  have z0 : w5.cell? ⟨w3.heap.size, 0, none⟩ = some (.string y0) := (bcell B45 _ _ (by simp)).trans (by simp)
  have z1 : w5.cell? ⟨w3.heap.size, 1, none⟩ = some (.int .i64 y1) := (bcell B45 _ _ (by simp)).trans (by simp)
  have z2 : w5.cell? ⟨w3.heap.size, 2, none⟩ = some (.int .i64 y2) := (bcell B45 _ _ (by simp)).trans (by simp)
  have z3 : w5.cell? ⟨w3.heap.size, 3, none⟩ = some (.int .i64 y3) := (bcell B45 _ _ (by simp)).trans (by simp)
  have z4 : w5.cell? ⟨w3.heap.size, 4, none⟩ = some (.int .i64 y4) := (bcell B45 _ _ (by simp)).trans (by simp)
  go_wp2_with fail
  refine (eqPot_any _ _ _ _ _ _).mono ?_
  rintro e w6 ⟨rfl, hw6⟩
  have B6 : Below (w5.alloc (.cells #[.string y0, .int .i64 y1, .int .i64 y2, .int .i64 y3, .int .i64 y4] 27)).heap.size (w5.alloc (.cells #[.string y0, .int .i64 y1, .int .i64 y2, .int .i64 y3, .int .i64 y4] 27)) w6 := by subst hw6; exact (below_new _ _).alloc (by simp) _
  clear hw6
  clear z0 z1 z2 z3 z4
  go_wp2
  go_ret
  exact ⟨rfl, (below_new w _).trans ((C5a.trans (B6.mono C5a.size)).mono (by simp))⟩

set_option maxRecDepth 100000 in
theorem liftedFnExactHeatPot (os : Os) (started : os.Started) (H : Type) (enc : TypeId × Value → H) :
    ReturnsInHanded {} Try.checked os 4 .any (Rows.fnExactHeatPotSpec.pre6 enc Try.prog Try.f4 Rows.fnExactHeatPotRow.domain false) (Rows.fnExactHeatPotSpec.post enc Try.prog Try.f4 false true false false) := by
  refine returnsInHanded_of_change (C := Try.checked) own started (by kernel_rfl) Try.func4
    (ChangeSpec.witness6 (enc := enc) (C := Try.checked) false ⟨#[], #[.agg #[.string ByteArray.empty, .int .i64 0, .int .i64 0, .int .i64 0, .int .i64 0], .int .i64 0, .int .i64 0], []⟩ 8 (by kernel_rfl) (by kernel_rfl) (by kernel_rfl) (by kernel_rfl)) ?_
  intro W base args ds gs before hval0 hW hcnd _
  have hval : ∀ (j : Nat) t v, Try.f4.params[j]? = some t → args[j]? = some v → Value.okWide Try.prog W .any base t v := hval0
  have hW' := hW
  obtain ⟨p, q, hA0, hV, rfl, hfz, hnd⟩ := hW
  have hA : DataW.TrodAll enc Try.prog W 0 (fun _ => true) true Try.f4.params.toList args.toList ds p := hA0
  rw [Try.params4] at hA hval
  obtain ⟨v0, vs0, d0, ds0, p0, q0, hargs, rfl, rfl, h0, r0⟩ := trodAll_cons hA
  obtain ⟨v1, vs1, d1, ds1, p1, q1, rfl, rfl, rfl, h1, r1⟩ := trodAll_cons r0
  obtain ⟨v2, vs2, d2, ds2, p2, q2, rfl, rfl, rfl, h2, r2⟩ := trodAll_cons r1
  obtain ⟨rfl, rfl, rfl⟩ := trodAll_nil r2
  obtain rfl : args = #[v0, v1, v2] := by cases args; simp_all
  obtain ⟨rfl, rfl⟩ := trodVars_none hV
  have k0 := h0
  have lt0 : ∀ x ∈ p0, x.block < W.heap.size := by obtain ⟨m, hm⟩ := k0; exact DataW.trod_lt m _ _ _ hm
  obtain ⟨x0, x1, x2, x3, x4, rfl, w0⟩ : ∃ (x0 : ByteArray) (x1 : Int) (x2 : Int) (x3 : Int) (x4 : Int), v0 = .agg #[.string x0, .int .i64 x1, .int .i64 x2, .int .i64 x3, .int .i64 x4] ∧ IsPot x0 x1 x2 x3 x4 := by
    exact isPot_of (hval 0 23 v0 rfl rfl) h0
  obtain ⟨a1, rfl, rfl, rfl, w1⟩ := open_int Try.underlying2 (hval 1 2 v1 rfl rfl) h1
  obtain ⟨a2, rfl, rfl, rfl, w2⟩ := open_int Try.underlying2 (hval 2 2 v2 rfl rfl) h2
  clear hA0 hval0
  refine (lawFnExactHeatPot x0 x1 x2 x3 x4 a1 a2 W w0 w1 w2).mono fun e W' ⟨he, bel⟩ => ?_
  subst he
  exact ⟨_, rfl, _, _, _, [], _, [], hW', trodAll_mk1 (shut_bool Try.underlying4 _), (trodAll_cons_mk (Below.trod laidOut (by kernel_rfl) (of_decide_eq_true (by kernel_rfl)) k0 bel lt0) (trodAll_cons_mk (shut_int Try.underlying2 w1) (trodAll_cons_mk (shut_int Try.underlying2 w2) trodAll_mk0))), rfl, bel.frame _, fun h => by cases h⟩

/-- The law FnExactHeatPot returns true for every input, and leaves its arguments as they were. -/
theorem fnExactHeatPot_holds : Rows.FnExactHeatPotSaid :=
  OpenClaim.holds_of_wide 4 Try.f4 rfl rfl rfl rfl rfl rfl rfl ⟨rfl, rfl, rfl, rfl, rfl⟩ rfl rfl rfl rfl rfl (by kernel_rfl) Try.func4 (by kernel_rfl)
    (of_decide_eq_true (by kernel_rfl)) (by unfold Func.isWrapper; first | (rw [if_pos (by decide +kernel)]; kernel_rfl) | (rw [if_neg (by decide +kernel)]; exact ⟨rfl, rfl⟩))
    (fun os started H enc _ => liftedFnExactHeatPot os started H enc)
end Go.Proofs.Ytllmillhdmknpaa
