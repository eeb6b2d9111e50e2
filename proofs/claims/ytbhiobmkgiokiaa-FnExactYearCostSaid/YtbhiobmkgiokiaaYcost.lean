/- The contracts of YearCost. -/
import Derived.Test.YtbhiobmkgiokiaaPay
namespace Go.Proofs.Ytbhiobmkgiokiaa
open Go.RowKit
attribute [local go_sem ↓] Go.wp_at_zero Go.wp_at_succ
set_option linter.unusedVariables false

/-- Damages that are valid. -/
def damB (n : Nat) (z : Nat → Int) : Bool := allB n (fun i => inB (z i) 0 10000000) && decide (n ≤ 12)

set_option maxHeartbeats 1000000 in
theorem implDam_any (g n : Nat) (z : Nat → Int) (t1 : TypeId) (w : World) (hn : n ≤ 1048576) (h1 : w.rowIs g t1 n (rowInts z)) :
    Calls Try.prog 104 #[.slice (some ⟨g, 0, none⟩) n n] w fun e w' => e = .returned (.bool (damB n z)) ∧ w = w' := by
  have hl1 := h1.lt
  have HR1 := Lib.hid (RdInts.of_row h1)
  clear h1
  go_enter Try.func104, Try.ntmps104
  go_wp2
  go_loop [7] (fun i => ∃ (k : Nat), k ≤ n ∧ i = .int .i64 k ∧ allB k (fun i => inB (z i) 0 10000000) = true) (fun i => n - (intOf i).toNat)
  case atStart => exact ⟨0, Nat.zero_le _, rfl, rfl⟩
  case round =>
    obtain ⟨k, hk, rfl, ha⟩ := hrel
    have HA := Lib.hid ha
    clear ha
    by_cases hlt : k < n
    · have hlti : (k : Int) < (n : Int) := by omega
      have c0 := HR1.out k hlt
      simp only [Nat.zero_add] at c0
      by_cases hv : inB (z k) 0 10000000 = true
      · go_wp2_with (first | (go_at_call 77; refine (within_any _ _ _ _).mono ?_; rintro e w' ⟨rfl, rfl⟩) | (go_at_call 134; go_in) | (go_at_call 66; refine (few_any _ _ _).mono ?_; rintro e w' ⟨rfl, rfl⟩))
        go_round
        case rel => exact ⟨k + 1, by omega, by go_num, by rw [allB_succ, HA.out, hv]; rfl⟩
        case measure => simp [intOf]; omega
      · have hvn : inB (z k) 0 10000000 = false := by simpa using hv
        clear hv
        have HF := Lib.hid (show damB n z = false by unfold damB; rw [allB_false (p := (fun i => inB (z i) 0 10000000)) k hlt hvn]; rfl)
        go_wp2_with (first | (go_at_call 77; refine (within_any _ _ _ _).mono ?_; rintro e w' ⟨rfl, rfl⟩) | (go_at_call 134; go_in) | (go_at_call 66; refine (few_any _ _ _).mono ?_; rintro e w' ⟨rfl, rfl⟩))
        go_ret
        exact ⟨by rw [HF.out]; rfl, rfl⟩
    · obtain rfl : k = n := by omega
      have HF := Lib.hid (show damB k z = decide (k ≤ 12) by unfold damB; rw [HA.out]; rfl)
      by_cases h12 : k ≤ 12
      · go_wp2_with (first | (go_at_call 77; refine (within_any _ _ _ _).mono ?_; rintro e w' ⟨rfl, rfl⟩) | (go_at_call 134; go_in) | (go_at_call 66; refine (few_any _ _ _).mono ?_; rintro e w' ⟨rfl, rfl⟩))
        go_ret
        exact ⟨by rw [HF.out]; simp; omega, rfl⟩
      · have h12n : decide (k ≤ 12) = false := by simpa using h12
        go_wp2_with (first | (go_at_call 77; refine (within_any _ _ _ _).mono ?_; rintro e w' ⟨rfl, rfl⟩) | (go_at_call 134; go_in) | (go_at_call 66; refine (few_any _ _ _).mono ?_; rintro e w' ⟨rfl, rfl⟩))
        go_ret
        exact ⟨by rw [HF.out]; simp; omega, rfl⟩

set_option maxHeartbeats 1000000 in
theorem specDam_any (g n : Nat) (z : Nat → Int) (t1 : TypeId) (w : World) (hn : n ≤ 1048576) (h1 : w.rowIs g t1 n (rowInts z)) :
    Calls Try.prog 101 #[.slice (some ⟨g, 0, none⟩) n n] w fun e w' => e = .returned (.bool (damB n z)) ∧ w = w' := by
  have hl1 := h1.lt
  have HR1 := Lib.hid (RdInts.of_row h1)
  clear h1
  go_enter Try.func101, Try.ntmps101
  go_wp2
  go_loop [3] (fun i => ∃ (k : Nat), k ≤ n ∧ i = .int .i64 k ∧ allB k (fun i => inB (z i) 0 10000000) = true) (fun i => n - (intOf i).toNat)
  case atStart => exact ⟨0, Nat.zero_le _, rfl, rfl⟩
  case round =>
    obtain ⟨k, hk, rfl, ha⟩ := hrel
    have HA := Lib.hid ha
    clear ha
    by_cases hlt : k < n
    · have hlti : (k : Int) < (n : Int) := by omega
      have c0 := HR1.out k hlt
      simp only [Nat.zero_add] at c0
      by_cases hv : inB (z k) 0 10000000 = true
      · go_wp2_with (first | (go_at_call 73; refine (l00In_any _ _ _ _).mono ?_; rintro e w' ⟨rfl, rfl⟩) | (go_at_call 131; go_in))
        go_round
        case rel => exact ⟨k + 1, by omega, by go_num, by rw [allB_succ, HA.out, hv]; rfl⟩
        case measure => simp [intOf]; omega
      · have hvn : inB (z k) 0 10000000 = false := by simpa using hv
        clear hv
        have HF := Lib.hid (show damB n z = false by unfold damB; rw [allB_false (p := (fun i => inB (z i) 0 10000000)) k hlt hvn]; rfl)
        go_wp2_with (first | (go_at_call 73; refine (l00In_any _ _ _ _).mono ?_; rintro e w' ⟨rfl, rfl⟩) | (go_at_call 131; go_in))
        go_ret
        exact ⟨by rw [HF.out]; rfl, rfl⟩
    · obtain rfl : k = n := by omega
      have HF := Lib.hid (show damB k z = decide (k ≤ 12) by unfold damB; rw [HA.out]; rfl)
      by_cases h12 : k ≤ 12
      · go_wp2_with (first | (go_at_call 73; refine (l00In_any _ _ _ _).mono ?_; rintro e w' ⟨rfl, rfl⟩) | (go_at_call 131; go_in))
        go_ret
        exact ⟨by rw [HF.out]; simp; omega, rfl⟩
      · have h12n : decide (k ≤ 12) = false := by simpa using h12
        go_wp2_with (first | (go_at_call 73; refine (l00In_any _ _ _ _).mono ?_; rintro e w' ⟨rfl, rfl⟩) | (go_at_call 131; go_in))
        go_ret
        exact ⟨by rw [HF.out]; simp; omega, rfl⟩

/-- What YearCost hands back. -/
def ycRes (x0 : ByteArray) (x1 : Int) (x2 : Int) (x3 : Int) (x4 : Int) (n : Nat) (z : Nat → Int) : Int × Int := if vPolicy x0 x1 x2 x3 x4 = true then (if damB n z = true then (sumFrom x1 (fun k => wrap64 (z k - paidV x2 x3 x4 (z k))) n, 0) else (0, 7)) else (0, 1)

set_option maxHeartbeats 2000000 in
theorem implYearCost_any (x0 : ByteArray) (x1 : Int) (x2 : Int) (x3 : Int) (x4 : Int) (g n : Nat) (z : Nat → Int) (t1 : TypeId) (v1 v2 : Int) (w : World) (hs0 : x0.size ≤ maxLen) (hn : n ≤ 1048576) (h1 : w.rowIs g t1 n (rowInts z)) (hv : ycRes x0 x1 x2 x3 x4 n z = (v1, v2)) :
    Calls Try.prog 45 #[.agg #[.string x0, .int .i64 x1, .int .i64 x2, .int .i64 x3, .int .i64 x4], .slice (some ⟨g, 0, none⟩) n n] w fun e w' => e = .returned (.tuple #[.int .i64 v1, .int .i64 v2]) ∧ Below w.heap.size w w' := by
  have H1 := Lib.hid h1
  have hl1 := h1.lt
  clear h1
  have HD := Lib.hid (row_below (w' := ((w.alloc (.cells #[.string x0, .int .i64 x1, .int .i64 x2, .int .i64 x3, .int .i64 x4] 67)).alloc (.cells #[.string x0, .int .i64 x1, .int .i64 x2, .int .i64 x3, .int .i64 x4] 67))) (B := w.heap.size) H1.out ((below_new _ _).alloc (by simp) _) hl1)
  by_cases e0 : vPolicy x0 x1 x2 x3 x4 = true
  case neg =>
    obtain ⟨rfl, rfl⟩ : v1 = 0 ∧ v2 = 1 := by unfold ycRes at hv; rw [if_neg e0] at hv; simpa [eq_comm] using hv
    have e0n : vPolicy x0 x1 x2 x3 x4 = false := by simpa using e0
    clear hv e0
    go_enter Try.func45, Try.ntmps45
    go_wp2_with (first | (go_at_call 103; refine (validPolicy_any _ _ _ _ _ _ hs0).mono ?_; rintro e w' ⟨rfl, rfl⟩) | (go_at_call 104; refine (implDam_any _ _ z _ _ hn HD.out).mono ?_; rintro e w' ⟨rfl, rfl⟩))
    go_ret2
    exact ⟨rfl, by repeat (first | exact below_new _ _ | exact (below_new _ _).alloc (by simp) _)⟩
  by_cases e1 : damB n z = true
  case neg =>
    obtain ⟨rfl, rfl⟩ : v1 = 0 ∧ v2 = 7 := by unfold ycRes at hv; rw [if_pos e0, if_neg e1] at hv; simpa [eq_comm] using hv
    have e1n : damB n z = false := by simpa using e1
    clear hv e1
    go_enter Try.func45, Try.ntmps45
    go_wp2_with (first | (go_at_call 103; refine (validPolicy_any _ _ _ _ _ _ hs0).mono ?_; rintro e w' ⟨rfl, rfl⟩) | (go_at_call 104; refine (implDam_any _ _ z _ _ hn HD.out).mono ?_; rintro e w' ⟨rfl, rfl⟩))
    go_ret2
    exact ⟨rfl, by repeat (first | exact below_new _ _ | exact (below_new _ _).alloc (by simp) _)⟩
  obtain ⟨rfl, rfl⟩ : v1 = sumFrom x1 (fun k => wrap64 (z k - paidV x2 x3 x4 (z k))) n ∧ v2 = 0 := by unfold ycRes at hv; rw [if_pos e0, if_pos e1] at hv; simpa [eq_comm] using hv
  clear hv
  go_enter Try.func45, Try.ntmps45
  go_wp2_with (first | (go_at_call 103; refine (validPolicy_any _ _ _ _ _ _ hs0).mono ?_; rintro e w' ⟨rfl, rfl⟩) | (go_at_call 104; refine (implDam_any _ _ z _ _ hn HD.out).mono ?_; rintro e w' ⟨rfl, rfl⟩))
  refine (cost_any _ _ _ _ _ _ _ z _ _ hn HD.out).mono ?_
  rintro e w2 ⟨rfl, hb2⟩
  have B2 := ((below_new w _).alloc (by simp) _).trans (hb2.mono (by simp; omega))
  go_wp2
  go_ret2
  exact ⟨rfl, B2⟩

set_option maxHeartbeats 2000000 in
theorem specYearCost_any (x0 : ByteArray) (x1 : Int) (x2 : Int) (x3 : Int) (x4 : Int) (g n : Nat) (z : Nat → Int) (t1 : TypeId) (v1 v2 : Int) (w : World) (hs0 : x0.size ≤ maxLen) (hn : n ≤ 1048576) (h1 : w.rowIs g t1 n (rowInts z)) (hv : ycRes x0 x1 x2 x3 x4 n z = (v1, v2)) :
    Calls Try.prog 42 #[.agg #[.string x0, .int .i64 x1, .int .i64 x2, .int .i64 x3, .int .i64 x4], .slice (some ⟨g, 0, none⟩) n n] w fun e w' => e = .returned (.tuple #[.int .i64 v1, .int .i64 v2]) ∧ Below w.heap.size w w' := by
  have H1 := Lib.hid h1
  have hl1 := h1.lt
  clear h1
  have HD := Lib.hid (row_below (w' := (w.alloc (.cells #[.string x0, .int .i64 x1, .int .i64 x2, .int .i64 x3, .int .i64 x4] 67))) (B := w.heap.size) H1.out (below_new _ _) hl1)
  have Z0 := Lib.hid (show (w.alloc (.cells #[.string x0, .int .i64 x1, .int .i64 x2, .int .i64 x3, .int .i64 x4] 67)).cell? ⟨w.heap.size, 0, none⟩ = some (.string x0) by simp)
  have Z1 := Lib.hid (show (w.alloc (.cells #[.string x0, .int .i64 x1, .int .i64 x2, .int .i64 x3, .int .i64 x4] 67)).cell? ⟨w.heap.size, 0 + 1, none⟩ = some (.int .i64 x1) by simp)
  have Z2 := Lib.hid (show (w.alloc (.cells #[.string x0, .int .i64 x1, .int .i64 x2, .int .i64 x3, .int .i64 x4] 67)).cell? ⟨w.heap.size, 0 + 2, none⟩ = some (.int .i64 x2) by simp)
  have Z3 := Lib.hid (show (w.alloc (.cells #[.string x0, .int .i64 x1, .int .i64 x2, .int .i64 x3, .int .i64 x4] 67)).cell? ⟨w.heap.size, 0 + 3, none⟩ = some (.int .i64 x3) by simp)
  have Z4 := Lib.hid (show (w.alloc (.cells #[.string x0, .int .i64 x1, .int .i64 x2, .int .i64 x3, .int .i64 x4] 67)).cell? ⟨w.heap.size, 0 + 4, none⟩ = some (.int .i64 x4) by simp)
  by_cases e0 : vPolicy x0 x1 x2 x3 x4 = true
  case neg =>
    obtain ⟨rfl, rfl⟩ : v1 = 0 ∧ v2 = 1 := by unfold ycRes at hv; rw [if_neg e0] at hv; simpa [eq_comm] using hv
    have e0n : vPolicy x0 x1 x2 x3 x4 = false := by simpa using e0
    clear hv e0
    go_enter Try.func42, Try.ntmps42
    go_wp2_with (first | (go_at_call 100; refine (onePolicy_any w.heap.size 0 x0 x1 x2 x3 x4 _ hs0 Z0.out Z1.out Z2.out Z3.out Z4.out).mono ?_; rintro e w' ⟨rfl, rfl⟩) | (go_at_call 101; refine (specDam_any _ _ z _ _ hn HD.out).mono ?_; rintro e w' ⟨rfl, rfl⟩))
    go_ret2
    exact ⟨rfl, by repeat (first | exact below_new _ _ | exact (below_new _ _).alloc (by simp) _)⟩
  by_cases e1 : damB n z = true
  case neg =>
    obtain ⟨rfl, rfl⟩ : v1 = 0 ∧ v2 = 7 := by unfold ycRes at hv; rw [if_pos e0, if_neg e1] at hv; simpa [eq_comm] using hv
    have e1n : damB n z = false := by simpa using e1
    clear hv e1
    go_enter Try.func42, Try.ntmps42
    go_wp2_with (first | (go_at_call 100; refine (onePolicy_any w.heap.size 0 x0 x1 x2 x3 x4 _ hs0 Z0.out Z1.out Z2.out Z3.out Z4.out).mono ?_; rintro e w' ⟨rfl, rfl⟩) | (go_at_call 101; refine (specDam_any _ _ z _ _ hn HD.out).mono ?_; rintro e w' ⟨rfl, rfl⟩))
    go_ret2
    exact ⟨rfl, by repeat (first | exact below_new _ _ | exact (below_new _ _).alloc (by simp) _)⟩
  obtain ⟨rfl, rfl⟩ : v1 = sumFrom x1 (fun k => wrap64 (z k - paidV x2 x3 x4 (z k))) n ∧ v2 = 0 := by unfold ycRes at hv; rw [if_pos e0, if_pos e1] at hv; simpa [eq_comm] using hv
  clear hv
  go_enter Try.func42, Try.ntmps42
  go_wp2_with (first | (go_at_call 100; refine (onePolicy_any w.heap.size 0 x0 x1 x2 x3 x4 _ hs0 Z0.out Z1.out Z2.out Z3.out Z4.out).mono ?_; rintro e w' ⟨rfl, rfl⟩) | (go_at_call 101; refine (specDam_any _ _ z _ _ hn HD.out).mono ?_; rintro e w' ⟨rfl, rfl⟩))
  refine (l23Cost_any w.heap.size 0 x0 x1 x2 x3 x4 _ _ z _ _ Z0.out Z1.out Z2.out Z3.out Z4.out (by simp) hn HD.out).mono ?_
  rintro e w2 ⟨rfl, hb2⟩
  have B2 := (below_new w _).trans (hb2.mono (by simp))
  go_wp2
  go_ret2
  exact ⟨rfl, B2⟩
end Go.Proofs.Ytbhiobmkgiokiaa
