/- Proved here: for every stack and every three numbers the program and the reference agree on CrackDays, and the arguments are left as they were, without any condition. -/
import Derived.Test.YtlpjjhjbejjddaaCrack
import Derived.Test.YtlpjjhjbejjddaaStackS
namespace Go.Proofs.Ytlpjjhjbejjddaa
open Go.ChangeShapes Go.WideShapes Go.ChangeAt Go.RowKit Go.Deep
open Go.ChangeMaps (open_string shut_string)
set_option linter.unusedVariables false

set_option maxHeartbeats 2000000 in
theorem lawFnExactCrackDays (x0 : ByteArray) (x1 : Int) (x2 : Int) (x3 : Int) (a1 : Int) (a2 : Int) (a3 : Int) (w : World) (h0 : IsStack x0 x1 x2 x3) (h1 : (Lit.int .i64 a1).wf = true) (h2 : (Lit.int .i64 a2).wf = true) (h3 : (Lit.int .i64 a3).wf = true) :
    Calls Try.prog 9 #[.agg #[.string x0, .int .i64 x1, .int .i64 x2, .int .i64 x3], .int .i64 a1, .int .i64 a2, .int .i64 a3] w fun e w' => e = .returned (.bool true) ∧ Below w.heap.size w w' := by
  obtain ⟨hs0, _⟩ := h0
  obtain ⟨⟨v1, v2⟩, hv⟩ : ∃ p, crRes x0 x1 x2 x3 a1 a2 a3 = p := ⟨_, rfl⟩
  have HV := Lib.hid hv
  clear hv
  by_cases hsz : (x0.size : Int) ≤ 1048576
  case neg =>
    have hsz2 : 1048576 < (x0.size : Int) := by omega
    go_enter Try.func9, Try.ntmps9
    go_wp2_with (go_at_call 22; refine (szStack_no _ _ _ _ _ _ hs0 hsz2 (by omega) (by omega)).mono ?_; rintro e w1 ⟨rfl, rfl⟩)
    go_ret
    exact ⟨rfl, (below_new _ _).alloc (by simp) _⟩
  go_enter Try.func9, Try.ntmps9
  go_wp2_with fail
  refine (szStack_yes _ _ _ _ _ _ hsz (by omega)).mono ?_
  rintro e w1 ⟨rfl, hw1⟩
  have B1 : Below (w.alloc (.cells #[.string x0, .int .i64 x1, .int .i64 x2, .int .i64 x3] 34)).heap.size (w.alloc (.cells #[.string x0, .int .i64 x1, .int .i64 x2, .int .i64 x3] 34)) w1 := by subst hw1; exact below_new _ _
  clear hw1
  have z0 : w1.cell? ⟨w.heap.size, 0, none⟩ = some (.string x0) := (bcell B1 _ _ (by simp)).trans (by simp)
  have z1 : w1.cell? ⟨w.heap.size, 1, none⟩ = some (.int .i64 x1) := (bcell B1 _ _ (by simp)).trans (by simp)
  have z2 : w1.cell? ⟨w.heap.size, 2, none⟩ = some (.int .i64 x2) := (bcell B1 _ _ (by simp)).trans (by simp)
  have z3 : w1.cell? ⟨w.heap.size, 3, none⟩ = some (.int .i64 x3) := (bcell B1 _ _ (by simp)).trans (by simp)
  go_wp2_with fail
  refine (toStack_any _ _ _ _ _).mono ?_
  rintro e w2 ⟨rfl, hw2⟩
  have B2 : Below w1.heap.size w1 w2 := by subst hw2; exact ((below_new _ _).alloc (by simp) _).alloc (by simp; omega) _
  clear hw2 z0 z1 z2 z3
  have C2 := B1.trans (B2.mono B1.size)
  go_wp2_with fail
  refine (specCrackDays_any _ _ _ _ _ _ _ v1 v2 _ hs0 HV.out).mono ?_
  rintro e w3 ⟨rfl, B3⟩
  have C3 := C2.trans (B3.mono C2.size)
  have z0 : w3.cell? ⟨w.heap.size, 0, none⟩ = some (.string x0) := (bcell C3 _ _ (by simp)).trans (by simp)
  have z1 : w3.cell? ⟨w.heap.size, 1, none⟩ = some (.int .i64 x1) := (bcell C3 _ _ (by simp)).trans (by simp)
  have z2 : w3.cell? ⟨w.heap.size, 2, none⟩ = some (.int .i64 x2) := (bcell C3 _ _ (by simp)).trans (by simp)
  have z3 : w3.cell? ⟨w.heap.size, 3, none⟩ = some (.int .i64 x3) := (bcell C3 _ _ (by simp)).trans (by simp)
  go_wp2_with fail
  refine (toStack_any _ _ _ _ _).mono ?_
  rintro e w4 ⟨rfl, hw4⟩
  have B4 : Below w3.heap.size w3 w4 := by subst hw4; exact ((below_new _ _).alloc (by simp) _).alloc (by simp; omega) _
  clear hw4 z0 z1 z2 z3
  have C4 := C3.trans (B4.mono C3.size)
  go_wp2_with fail
  refine (implCrackDays_any _ _ _ _ _ _ _ v1 v2 _ hs0 HV.out).mono ?_
  rintro e w5 ⟨rfl, B5⟩
  go_wp2
  go_ret
  exact ⟨rfl, (below_new w _).trans ((C4.trans (B5.mono C4.size)).mono (by simp))⟩

set_option maxRecDepth 100000 in
theorem liftedFnExactCrackDays (os : Os) (started : os.Started) (H : Type) (enc : TypeId × Value → H) :
    ReturnsInHanded {} Try.checked os 9 .any (Rows.fnExactCrackDaysSpec.pre6 enc Try.prog Try.f9 Rows.fnExactCrackDaysRow.domain false) (Rows.fnExactCrackDaysSpec.post enc Try.prog Try.f9 false true false false) := by
  refine returnsInHanded_of_change (C := Try.checked) own started (by kernel_rfl) Try.func9
    (ChangeSpec.witness6 (enc := enc) (C := Try.checked) false ⟨#[], #[.agg #[.string ByteArray.empty, .int .i64 0, .int .i64 0, .int .i64 0], .int .i64 0, .int .i64 0, .int .i64 0], []⟩ 8 (by kernel_rfl) (by kernel_rfl) (by kernel_rfl) (by kernel_rfl)) ?_
  intro W base args ds gs before hval0 hW hcnd _
  have hval : ∀ (j : Nat) t v, Try.f9.params[j]? = some t → args[j]? = some v → Value.okWide Try.prog W .any base t v := hval0
  have hW' := hW
  obtain ⟨p, q, hA0, hV, rfl, hfz, hnd⟩ := hW
  have hA : DataW.TrodAll enc Try.prog W 0 (fun _ => true) true Try.f9.params.toList args.toList ds p := hA0
  rw [Try.params9] at hA hval
  obtain ⟨v0, vs0, d0, ds0, p0, q0, hargs, rfl, rfl, h0, r0⟩ := trodAll_cons hA
  obtain ⟨v1, vs1, d1, ds1, p1, q1, rfl, rfl, rfl, h1, r1⟩ := trodAll_cons r0
  obtain ⟨v2, vs2, d2, ds2, p2, q2, rfl, rfl, rfl, h2, r2⟩ := trodAll_cons r1
  obtain ⟨v3, vs3, d3, ds3, p3, q3, rfl, rfl, rfl, h3, r3⟩ := trodAll_cons r2
  obtain ⟨rfl, rfl, rfl⟩ := trodAll_nil r3
  obtain rfl : args = #[v0, v1, v2, v3] := by cases args; simp_all
  obtain ⟨rfl, rfl⟩ := trodVars_none hV
  have k0 := h0
  have lt0 : ∀ x ∈ p0, x.block < W.heap.size := by obtain ⟨m, hm⟩ := k0; exact DataW.trod_lt m _ _ _ hm
  obtain ⟨x0, x1, x2, x3, rfl, w0⟩ : ∃ (x0 : ByteArray) (x1 : Int) (x2 : Int) (x3 : Int), v0 = .agg #[.string x0, .int .i64 x1, .int .i64 x2, .int .i64 x3] ∧ IsStack x0 x1 x2 x3 := by
    exact isStack_of (hval 0 34 v0 rfl rfl) h0
  obtain ⟨a1, rfl, rfl, rfl, w1⟩ := open_int Try.underlying2 (hval 1 2 v1 rfl rfl) h1
  obtain ⟨a2, rfl, rfl, rfl, w2⟩ := open_int Try.underlying2 (hval 2 2 v2 rfl rfl) h2
  obtain ⟨a3, rfl, rfl, rfl, w3⟩ := open_int Try.underlying2 (hval 3 2 v3 rfl rfl) h3
  clear hA0 hval0
  refine (lawFnExactCrackDays x0 x1 x2 x3 a1 a2 a3 W w0 w1 w2 w3).mono fun e W' ⟨he, bel⟩ => ?_
  subst he
  exact ⟨_, rfl, _, _, _, [], _, [], hW', trodAll_mk1 (shut_bool Try.underlying4 _), (trodAll_cons_mk (Below.trod laidOut (by kernel_rfl) (of_decide_eq_true (by kernel_rfl)) k0 bel lt0) (trodAll_cons_mk (shut_int Try.underlying2 w1) (trodAll_cons_mk (shut_int Try.underlying2 w2) (trodAll_cons_mk (shut_int Try.underlying2 w3) trodAll_mk0)))), rfl, bel.frame _, fun h => by cases h⟩

/-- The law FnExactCrackDays returns true for every input, and leaves its arguments as they were. -/
theorem fnExactCrackDays_holds : Rows.FnExactCrackDaysSaid :=
  OpenClaim.holds_of_wide 9 Try.f9 rfl rfl rfl rfl rfl rfl rfl ⟨rfl, rfl, rfl, rfl, rfl⟩ rfl rfl rfl rfl rfl (by kernel_rfl) Try.func9 (by kernel_rfl)
    (of_decide_eq_true (by kernel_rfl)) (by unfold Func.isWrapper; first | (rw [if_pos (by decide +kernel)]; kernel_rfl) | (rw [if_neg (by decide +kernel)]; exact ⟨rfl, rfl⟩))
    (fun os started H enc _ => liftedFnExactCrackDays os started H enc)
end Go.Proofs.Ytlpjjhjbejjddaa
