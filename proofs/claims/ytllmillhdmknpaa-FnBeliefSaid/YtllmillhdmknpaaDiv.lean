/- The quotient rounded to the nearest number: the program's divRound and the reference's l01Div, for a positive divisor. -/
import Derived.Test.YtllmillhdmknpaaSmall
namespace Go.Proofs.Ytllmillhdmknpaa
open Go.RowKit
set_option linter.unusedVariables false

/-- The nearest quotient, halves away from 0, for a positive divisor. -/
def rdiv (a b : Int) : Int := if a < 0 then -((b - 2 * a) / (2 * b)) else (2 * a + b) / (2 * b)
theorem half_up {a b : Int} (hb : 1 ≤ b) (h : b - a % b ≤ a % b) : (2 * a + b) / (2 * b) = a / b + 1 := by
  have h1 := Int.mul_ediv_add_emod a b
  have h2 := Int.emod_lt_of_pos a (show 0 < b by omega)
  have e : 2 * a + b = (2 * (a % b) + b - 2 * b) + (2 * b) * (a / b + 1) := by
    have : (2 * b) * (a / b + 1) = 2 * (b * (a / b)) + 2 * b := by rw [Int.mul_add, Int.mul_assoc]; omega
    omega
  rw [e, Int.add_mul_ediv_left _ _ (by omega), Int.ediv_eq_zero_of_lt (by omega) (by omega)]; omega
theorem half_down {a b : Int} (hb : 1 ≤ b) (h : a % b < b - a % b) : (2 * a + b) / (2 * b) = a / b := by
  have h1 := Int.mul_ediv_add_emod a b
  have h2 := Int.emod_nonneg a (show b ≠ 0 by omega)
  have e : 2 * a + b = (2 * (a % b) + b) + (2 * b) * (a / b) := by
    have : (2 * b) * (a / b) = 2 * (b * (a / b)) := by rw [Int.mul_assoc]
    omega
  rw [e, Int.add_mul_ediv_left _ _ (by omega), Int.ediv_eq_zero_of_lt (by omega) (by omega)]; omega
theorem div_le_self' {a b : Int} (ha : 0 ≤ a) (hb : 1 ≤ b) : 0 ≤ a / b ∧ a / b ≤ a :=
  ⟨Int.ediv_nonneg ha (by omega), Int.ediv_le_self b ha⟩

set_option maxHeartbeats 1000000 in
theorem l01Div_any (a b : Int) (w : World) (hb : 1 ≤ b) (hb2 : b ≤ 1000000000000000) (ha1 : -1000000000000000 ≤ a) (ha2 : a ≤ 1000000000000000) :
    Calls Try.prog 75 #[.int .i64 a, .int .i64 b] w fun e w' => e = .returned (.int .i64 (rdiv a b)) ∧ w = w' := by
  by_cases h : a < 0
  · have HF := Lib.hid (show rdiv a b = -((b - 2 * a) / (2 * b)) by unfold rdiv; rw [if_pos h])
    have hq := div_le_self' (a := b - 2 * a) (b := 2 * b) (by omega) (by omega)
    obtain ⟨hq1, hq2⟩ := hq
    go_enter Try.func75, Try.ntmps75
    go_wp2
    go_ret
    exact ⟨by rw [HF.out]; rfl, rfl⟩
  · have HF := Lib.hid (show rdiv a b = (2 * a + b) / (2 * b) by unfold rdiv; rw [if_neg h])
    have hq := div_le_self' (a := 2 * a + b) (b := 2 * b) (by omega) (by omega)
    obtain ⟨hq1, hq2⟩ := hq
    go_enter Try.func75, Try.ntmps75
    go_wp2
    go_ret
    exact ⟨by rw [HF.out]; rfl, rfl⟩

set_option maxHeartbeats 1000000 in
theorem divRound_neg (c b : Int) (w : World) (hb : 1 ≤ b) (hb2 : b ≤ 1000000000000000) (hc : 0 < c) (hc2 : c ≤ 1000000000000000) :
    Calls Try.prog 78 #[.int .i64 (-c), .int .i64 b] w fun e w' => e = .returned (.int .i64 (rdiv (-c) b)) ∧ w = w' := by
  have hq := div_le_self' (a := c) (b := b) (by omega) hb
  have hr1 := Int.emod_nonneg c (show b ≠ 0 by omega)
  have hr2 := Int.emod_lt_of_pos c (show 0 < b by omega)
  obtain ⟨hq1, hq2⟩ := hq
  have hbn : decide (b < 0) = false := by simp; omega
  have hcn : decide (-c < 0) = true := by simp; omega
  by_cases hh : b - c % b ≤ c % b
  · have HF := Lib.hid (show rdiv (-c) b = -(c / b + 1) by unfold rdiv; rw [if_pos (by omega), show b - 2 * (-c) = 2 * c + b by omega, half_up hb hh])
    go_enter Try.func78, Try.ntmps78
    go_wp2
    go_ret
    exact ⟨by rw [HF.out]; rfl, rfl⟩
  · have HF := Lib.hid (show rdiv (-c) b = -(c / b) by unfold rdiv; rw [if_pos (by omega), show b - 2 * (-c) = 2 * c + b by omega, half_down hb (by omega)])
    go_enter Try.func78, Try.ntmps78
    go_wp2
    go_ret
    exact ⟨by rw [HF.out]; rfl, rfl⟩

set_option maxHeartbeats 1000000 in
theorem divRound_pos (a b : Int) (w : World) (hb : 1 ≤ b) (hb2 : b ≤ 1000000000000000) (ha1 : 0 ≤ a) (ha2 : a ≤ 1000000000000000) :
    Calls Try.prog 78 #[.int .i64 a, .int .i64 b] w fun e w' => e = .returned (.int .i64 (rdiv a b)) ∧ w = w' := by
  have hq := div_le_self' (a := a) (b := b) (by omega) hb
  have hr1 := Int.emod_nonneg a (show b ≠ 0 by omega)
  have hr2 := Int.emod_lt_of_pos a (show 0 < b by omega)
  obtain ⟨hq1, hq2⟩ := hq
  have hbn : decide (b < 0) = false := by simp; omega
  have hcn : decide (a < 0) = false := by simp; omega
  by_cases hh : b - a % b ≤ a % b
  · have HF := Lib.hid (show rdiv a b = a / b + 1 by unfold rdiv; rw [if_neg (by omega), half_up hb hh])
    go_enter Try.func78, Try.ntmps78
    go_wp2
    go_ret
    exact ⟨by rw [HF.out]; rfl, rfl⟩
  · have HF := Lib.hid (show rdiv a b = a / b by unfold rdiv; rw [if_neg (by omega), half_down hb (by omega)])
    go_enter Try.func78, Try.ntmps78
    go_wp2
    go_ret
    exact ⟨by rw [HF.out]; rfl, rfl⟩

theorem divRound_any (a b : Int) (w : World) (hb : 1 ≤ b) (hb2 : b ≤ 1000000000000000) (ha1 : -1000000000000000 ≤ a) (ha2 : a ≤ 1000000000000000) :
    Calls Try.prog 78 #[.int .i64 a, .int .i64 b] w fun e w' => e = .returned (.int .i64 (rdiv a b)) ∧ w = w' := by
  by_cases h : a < 0
  · have := divRound_neg (-a) b w hb hb2 (by omega) (by omega)
    rw [Int.neg_neg] at this
    exact this
  · exact divRound_pos a b w hb hb2 (by omega) ha2
end Go.Proofs.Ytllmillhdmknpaa
