/- The contracts of MoistureAfter. -/
import Derived.Test.YtlpjjhjbejjddaaDry
import Derived.Test.YtlpjjhjbejjddaaFirst
namespace Go.Proofs.Ytlpjjhjbejjddaa
open Go.RowKit
attribute [local go_sem ↓] Go.wp_at_zero Go.wp_at_succ
set_option linter.unusedVariables false

/-- What the function hands back. -/
def moRes (x0 : ByteArray) (x1 : Int) (x2 : Int) (x3 : Int) (hu da : Int) : Int × Int := (if vStack x0 x1 x2 x3 = true then (if inB hu 0 1000 = true then (if inB da 0 4000 = true then (moist x1 (evenV hu) x2 da.toNat, 0) else (0, 2)) else (0, 2)) else (0, 1))

set_option maxHeartbeats 4000000 in
theorem implMoistureAfter_any (x0 : ByteArray) (x1 : Int) (x2 : Int) (x3 : Int) (hu da : Int) (v1 v2 : Int) (w : World) (hs0 : x0.size ≤ maxLen) (hv : moRes x0 x1 x2 x3 hu da = (v1, v2)) :
    Calls Try.prog 27 #[.agg #[.string x0, .int .i64 x1, .int .i64 x2, .int .i64 x3], .int .i64 hu, .int .i64 da] w fun e w' => e = .returned (.tuple #[.int .i64 v1, .int .i64 v2]) ∧ Below w.heap.size w w' := by
  by_cases e0 : vStack x0 x1 x2 x3 = true
  case neg =>
    obtain ⟨rfl, rfl⟩ : v1 = 0 ∧ v2 = 1 := by unfold moRes at hv; rw [if_neg e0] at hv; simpa [eq_comm] using hv
    have e0n : vStack x0 x1 x2 x3 = false := by simpa using e0
    clear hv e0
    go_enter Try.func27, Try.ntmps27
    go_wp2_with (first | (go_at_call 79; refine (validStack_any _ _ _ _ _ hs0).mono ?_; rintro e w' ⟨rfl, rfl⟩) | (go_at_call 120; refine (within_any _ _ _ _).mono ?_; rintro e w' ⟨rfl, rfl⟩) | (go_at_call 80; go_in) | (go_at_call 84; go_in))
    go_ret2
    exact ⟨rfl, by repeat (first | exact below_new _ _ | exact (below_new _ _).alloc (by simp) _)⟩
  by_cases e1 : inB hu 0 1000 = true
  case neg =>
    obtain ⟨rfl, rfl⟩ : v1 = 0 ∧ v2 = 2 := by unfold moRes at hv; rw [if_pos e0, if_neg e1] at hv; simpa [eq_comm] using hv
    have e1n : inB hu 0 1000 = false := by simpa using e1
    clear hv e1
    go_enter Try.func27, Try.ntmps27
    go_wp2_with (first | (go_at_call 79; refine (validStack_any _ _ _ _ _ hs0).mono ?_; rintro e w' ⟨rfl, rfl⟩) | (go_at_call 120; refine (within_any _ _ _ _).mono ?_; rintro e w' ⟨rfl, rfl⟩) | (go_at_call 80; go_in) | (go_at_call 84; go_in))
    go_ret2
    exact ⟨rfl, by repeat (first | exact below_new _ _ | exact (below_new _ _).alloc (by simp) _)⟩
  by_cases e2 : inB da 0 4000 = true
  case neg =>
    obtain ⟨rfl, rfl⟩ : v1 = 0 ∧ v2 = 2 := by unfold moRes at hv; rw [if_pos e0, if_pos e1, if_neg e2] at hv; simpa [eq_comm] using hv
    have e2n : inB da 0 4000 = false := by simpa using e2
    clear hv e2
    go_enter Try.func27, Try.ntmps27
    go_wp2_with (first | (go_at_call 79; refine (validStack_any _ _ _ _ _ hs0).mono ?_; rintro e w' ⟨rfl, rfl⟩) | (go_at_call 120; refine (within_any _ _ _ _).mono ?_; rintro e w' ⟨rfl, rfl⟩) | (go_at_call 80; go_in) | (go_at_call 84; go_in))
    go_ret2
    exact ⟨rfl, by repeat (first | exact below_new _ _ | exact (below_new _ _).alloc (by simp) _)⟩
  replace hv : (moist x1 (evenV hu) x2 da.toNat, 0) = (v1, v2) := by unfold moRes at hv; rw [if_pos e0, if_pos e1, if_pos e2] at hv; exact hv
  have HV := Lib.hid hv
  clear hv
  obtain ⟨⟨b1, b2⟩, ⟨b5, b6⟩⟩ := stack_bd e0
  obtain ⟨c1, c2⟩ := inB_true e1
  obtain ⟨d1, d2⟩ := inB_true e2
  obtain ⟨d, rfl⟩ := Int.eq_ofNat_of_zero_le d1
  have hv := HV.out
  rw [Int.toNat_natCast] at hv
  simp only [Prod.mk.injEq] at hv
  have HVV := Lib.hid hv
  clear hv HV
  go_enter Try.func27, Try.ntmps27
  go_wp2_with (first | (go_at_call 79; refine (validStack_any _ _ _ _ _ hs0).mono ?_; rintro e w' ⟨rfl, rfl⟩) | (go_at_call 120; refine (within_any _ _ _ _).mono ?_; rintro e w' ⟨rfl, rfl⟩) | (go_at_call 80; go_in) | (go_at_call 84; go_in))
  refine (after_any _ _ _ _ _ d _ b1 b2 b5 b6 c1 c2 (by omega)).mono ?_
  rintro e w2 ⟨rfl, hb2⟩
  have B2 := ((below_new w _).alloc (by simp) _).trans (hb2.mono (by simp; omega))
  go_wp2
  go_ret2
  exact ⟨by rw [← HVV.out.1, ← HVV.out.2]; rfl, B2⟩

set_option maxHeartbeats 4000000 in
theorem specMoistureAfter_any (x0 : ByteArray) (x1 : Int) (x2 : Int) (x3 : Int) (hu da : Int) (v1 v2 : Int) (w : World) (hs0 : x0.size ≤ maxLen) (hv : moRes x0 x1 x2 x3 hu da = (v1, v2)) :
    Calls Try.prog 26 #[.agg #[.string x0, .int .i64 x1, .int .i64 x2, .int .i64 x3], .int .i64 hu, .int .i64 da] w fun e w' => e = .returned (.tuple #[.int .i64 v1, .int .i64 v2]) ∧ Below w.heap.size w w' := by
  have Z0 := Lib.hid (show (w.alloc (.cells #[.string x0, .int .i64 x1, .int .i64 x2, .int .i64 x3] 37)).cell? ⟨w.heap.size, 0, none⟩ = some (.string x0) by simp)
  have Z1 := Lib.hid (show (w.alloc (.cells #[.string x0, .int .i64 x1, .int .i64 x2, .int .i64 x3] 37)).cell? ⟨w.heap.size, 0 + 1, none⟩ = some (.int .i64 x1) by simp)
  have Z2 := Lib.hid (show (w.alloc (.cells #[.string x0, .int .i64 x1, .int .i64 x2, .int .i64 x3] 37)).cell? ⟨w.heap.size, 0 + 2, none⟩ = some (.int .i64 x2) by simp)
  have Z3 := Lib.hid (show (w.alloc (.cells #[.string x0, .int .i64 x1, .int .i64 x2, .int .i64 x3] 37)).cell? ⟨w.heap.size, 0 + 3, none⟩ = some (.int .i64 x3) by simp)
  by_cases e0 : vStack x0 x1 x2 x3 = true
  case neg =>
    obtain ⟨rfl, rfl⟩ : v1 = 0 ∧ v2 = 1 := by unfold moRes at hv; rw [if_neg e0] at hv; simpa [eq_comm] using hv
    have e0n : vStack x0 x1 x2 x3 = false := by simpa using e0
    clear hv e0
    go_enter Try.func26, Try.ntmps26
    go_wp2_with (first | (go_at_call 75; refine (oneStack_any w.heap.size 0 x0 x1 x2 x3 _ hs0 Z0.out Z1.out Z2.out Z3.out).mono ?_; rintro e w' ⟨rfl, rfl⟩) | (go_at_call 124; refine (l00In_any _ _ _ _).mono ?_; rintro e w' ⟨rfl, rfl⟩) | (go_at_call 76; go_in) | (go_at_call 82; go_in))
    go_ret2
    exact ⟨rfl, by repeat (first | exact below_new _ _ | exact (below_new _ _).alloc (by simp) _)⟩
  by_cases e1 : inB hu 0 1000 = true
  case neg =>
    obtain ⟨rfl, rfl⟩ : v1 = 0 ∧ v2 = 2 := by unfold moRes at hv; rw [if_pos e0, if_neg e1] at hv; simpa [eq_comm] using hv
    have e1n : inB hu 0 1000 = false := by simpa using e1
    clear hv e1
    go_enter Try.func26, Try.ntmps26
    go_wp2_with (first | (go_at_call 75; refine (oneStack_any w.heap.size 0 x0 x1 x2 x3 _ hs0 Z0.out Z1.out Z2.out Z3.out).mono ?_; rintro e w' ⟨rfl, rfl⟩) | (go_at_call 124; refine (l00In_any _ _ _ _).mono ?_; rintro e w' ⟨rfl, rfl⟩) | (go_at_call 76; go_in) | (go_at_call 82; go_in))
    go_ret2
    exact ⟨rfl, by repeat (first | exact below_new _ _ | exact (below_new _ _).alloc (by simp) _)⟩
  by_cases e2 : inB da 0 4000 = true
  case neg =>
    obtain ⟨rfl, rfl⟩ : v1 = 0 ∧ v2 = 2 := by unfold moRes at hv; rw [if_pos e0, if_pos e1, if_neg e2] at hv; simpa [eq_comm] using hv
    have e2n : inB da 0 4000 = false := by simpa using e2
    clear hv e2
    go_enter Try.func26, Try.ntmps26
    go_wp2_with (first | (go_at_call 75; refine (oneStack_any w.heap.size 0 x0 x1 x2 x3 _ hs0 Z0.out Z1.out Z2.out Z3.out).mono ?_; rintro e w' ⟨rfl, rfl⟩) | (go_at_call 124; refine (l00In_any _ _ _ _).mono ?_; rintro e w' ⟨rfl, rfl⟩) | (go_at_call 76; go_in) | (go_at_call 82; go_in))
    go_ret2
    exact ⟨rfl, by repeat (first | exact below_new _ _ | exact (below_new _ _).alloc (by simp) _)⟩
  replace hv : (moist x1 (evenV hu) x2 da.toNat, 0) = (v1, v2) := by unfold moRes at hv; rw [if_pos e0, if_pos e1, if_pos e2] at hv; exact hv
  have HV := Lib.hid hv
  clear hv
  obtain ⟨⟨b1, b2⟩, ⟨b5, b6⟩⟩ := stack_bd e0
  obtain ⟨c1, c2⟩ := inB_true e1
  obtain ⟨d1, d2⟩ := inB_true e2
  obtain ⟨d, rfl⟩ := Int.eq_ofNat_of_zero_le d1
  have hv := HV.out
  rw [Int.toNat_natCast] at hv
  simp only [Prod.mk.injEq] at hv
  have HVV := Lib.hid hv
  clear hv HV
  obtain ⟨g1, g2⟩ := even_bd hu
  go_enter Try.func26, Try.ntmps26
  go_wp2_with (first | (go_at_call 75; refine (oneStack_any w.heap.size 0 x0 x1 x2 x3 _ hs0 Z0.out Z1.out Z2.out Z3.out).mono ?_; rintro e w' ⟨rfl, rfl⟩) | (go_at_call 124; refine (l00In_any _ _ _ _).mono ?_; rintro e w' ⟨rfl, rfl⟩) | (go_at_call 76; go_in) | (go_at_call 82; go_in))
  have hlw : w.heap.size < (w.alloc (.cells #[.string x0, .int .i64 x1, .int .i64 x2, .int .i64 x3] 37)).heap.size := by simp
  have z0 : (w.alloc (.cells #[.string x0, .int .i64 x1, .int .i64 x2, .int .i64 x3] 37)).cell? ⟨w.heap.size, 0, none⟩ = some (.string x0) := by simp
  have z1 : (w.alloc (.cells #[.string x0, .int .i64 x1, .int .i64 x2, .int .i64 x3] 37)).cell? ⟨w.heap.size, 1, none⟩ = some (.int .i64 x1) := by simp
  have z2 : (w.alloc (.cells #[.string x0, .int .i64 x1, .int .i64 x2, .int .i64 x3] 37)).cell? ⟨w.heap.size, 2, none⟩ = some (.int .i64 x2) := by simp
  have z3 : (w.alloc (.cells #[.string x0, .int .i64 x1, .int .i64 x2, .int .i64 x3] 37)).cell? ⟨w.heap.size, 3, none⟩ = some (.int .i64 x3) := by simp
  have y1 := Ext.cell (W := (w.alloc (.cells #[.string x0, .int .i64 x1, .int .i64 x2, .int .i64 x3] 37))) (b := w.heap.size) (o := 1) (u := .int .i64 x1) z1 hlw
  have y2 := Ext.cell (W := (w.alloc (.cells #[.string x0, .int .i64 x1, .int .i64 x2, .int .i64 x3] 37))) (b := w.heap.size) (o := 2) (u := .int .i64 x2) z2 hlw
  refine wp_region_ext (by kernel_rfl) (by kernel_rfl) ?_
  repeat (go_big_quiet_step ((first | (go_at_call 78; exact ext_call (l04Even_any _ _ c1 c2)) | (go_at_call 83; exact ext_same (l04After_any _ _ _ d _ b1 b2 g1 g2 b5 b6 (by omega))))))
  refine wpQuiet_nil ?_
  intro W1 hx
  obtain ⟨x, hx⟩ := hx
  have hW1 := x.h
  rw [← hx] at hW1
  clear hx x y1 y2
  have B2 := (below_new w _).trans (hW1.mono (by simp))
  go_wp2
  go_ret2
  exact ⟨by rw [← HVV.out.1, ← HVV.out.2]; rfl, B2⟩
end Go.Proofs.Ytlpjjhjbejjddaa
