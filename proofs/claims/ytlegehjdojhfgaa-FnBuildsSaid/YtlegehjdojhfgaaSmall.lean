/- The contracts of the small functions that all statements of this seat share: ranges and names. Each says what the call returns; the world is as it was. -/
import Derived.Test.YtlegehjdojhfgaaRows
import Derived.Test.YtlegehjdojhfgaaLib
namespace Go.Proofs.Ytlegehjdojhfgaa
open Go.RowKit

set_option maxHeartbeats 400000 in
theorem within_any (n lo hi : Int) (w : World) :
    Calls Try.prog 13 #[.int .i64 n, .int .i64 lo, .int .i64 hi] w fun e w' => e = .returned (.bool (inB n lo hi)) ∧ w = w' := by
  go_enter Try.func13, Try.ntmps13
  go_wp2
  all_goals (go_ret; exact ⟨by first | (simp_all [inB]; done) | (simp [inB]; omega), rfl⟩)

set_option maxHeartbeats 400000 in
theorem few_any (n m : Int) (w : World) :
    Calls Try.prog 17 #[.int .i64 n, .int .i64 m] w fun e w' => e = .returned (.bool (decide (n ≤ m))) ∧ w = w' := by
  go_enter Try.func17, Try.ntmps17
  go_wp2
  go_ret
  exact ⟨by simp, rfl⟩

set_option maxHeartbeats 400000 in
theorem isDigit_any (n : Int) (w : World) :
    Calls Try.prog 26 #[.int .u8 n] w fun e w' => e = .returned (.bool (inB n 48 57)) ∧ w = w' := by
  go_enter Try.func26, Try.ntmps26
  go_wp2
  all_goals (go_ret; exact ⟨by first | (simp_all [inB]; done) | (simp [inB]; omega), rfl⟩)

theorem name_long (s : ByteArray) (h : 10 < s.size) : nameB s = false := by
  unfold nameB; simp; intro _ h'; omega
theorem name_none (s : ByteArray) (h : s.size = 0) : nameB s = false := by
  unfold nameB; simp [h]

set_option maxHeartbeats 1000000 in
theorem IsName_any (s : ByteArray) (w : World) (hs : s.size ≤ maxLen) :
    Calls Try.prog 23 #[.string s] w fun e w' => e = .returned (.bool (nameB s)) ∧ w = w' := by
  unfold maxLen at hs
  go_enter Try.func23, Try.ntmps23
  go_wp2
  go_loop [3] (fun i => ∃ k : Nat, k ≤ s.size ∧ i = .int .i64 k ∧ allB k (okc s) = true) (fun i => s.size - (intOf i).toNat)
  case atStart => exact ⟨0, Nat.zero_le _, rfl, rfl⟩
  case round =>
    obtain ⟨k, hk, rfl, ha⟩ := hrel
    have HA := Lib.hid ha
    clear ha
    by_cases hlt : k < s.size
    · have hb0 : (s[k].toNat : Int) ≤ 255 := by have := s[k].toNat_lt; omega
      have HO := Lib.hid (okc_at s k hlt)
      by_cases h1 : (97 : Int) ≤ (s[k].toNat : Int) ∧ (s[k].toNat : Int) ≤ 122
      · obtain ⟨h1, h2⟩ := h1
        have HK := Lib.hid (show okc s k = true by rw [HO.out]; simp [inB, h1, h2])
        go_wp2
        go_round
        case rel => exact ⟨k + 1, by omega, by go_num, by rw [allB_succ, HA.out, HK.out]; rfl⟩
        case measure => simp [intOf]; omega
      · have h1' : (s[k].toNat : Int) < 97 ∨ (97 ≤ (s[k].toNat : Int) ∧ decide ((s[k].toNat : Int) ≤ 122) = false) := by simp; omega
        clear h1
        have hL : inB (s[k].toNat : Int) 97 122 = false := by
          unfold inB; rw [Bool.and_eq_false_iff]
          rcases h1' with h | h
          · left; simpa using h
          · right; exact h.2
        have HL := Lib.hid hL
        clear hL
        by_cases hk0 : k = 0
        · have HF := Lib.hid (name_out s k hlt (by rw [HO.out, HL.out]; simp [hk0]))
          obtain rfl := hk0
          rcases h1' with h1 | ⟨h1, h2⟩
          all_goals
            go_wp2
            go_ret
            exact ⟨by rw [HF.out]; rfl, rfl⟩
        · have hkb : ((k : Int) == 0) = false := by simp; omega
          by_cases hd : inB (s[k].toNat : Int) 48 57 = true
          · have HK := Lib.hid (show okc s k = true by rw [HO.out, HL.out, hd]; simp [hk0])
            rcases h1' with h1 | ⟨h1, h2⟩
            all_goals
              go_wp2_with (first | (go_at_call 26; refine (isDigit_any _ _).mono ?_; rintro e w' ⟨rfl, rfl⟩))
              go_round
              case rel => exact ⟨k + 1, by omega, by go_num, by rw [allB_succ, HA.out, HK.out]; rfl⟩
              case measure => simp [intOf]; omega
          · have hd' : inB (s[k].toNat : Int) 48 57 = false := by simpa using hd
            clear hd
            have HF := Lib.hid (name_out s k hlt (by rw [HO.out, HL.out, hd']; simp))
            rcases h1' with h1 | ⟨h1, h2⟩
            all_goals
              go_wp2_with (first | (go_at_call 26; refine (isDigit_any _ _).mono ?_; rintro e w' ⟨rfl, rfl⟩))
              go_ret
              exact ⟨by rw [HF.out]; rfl, rfl⟩
    · obtain rfl : k = s.size := by omega
      have HZ := Lib.hid (toList_nil s)
      by_cases h0 : s.size = 0
      · have HF := Lib.hid (name_none s h0)
        have hz : s.toList = [] := HZ.out.2 h0
        clear h0
        go_wp2
        go_ret
        exact ⟨by rw [HF.out]; rfl, rfl⟩
      · have HF := Lib.hid (show nameB s = decide ((s.size : Int) ≤ 10) by rw [name_end s HA.out, Bool.eq_iff_iff]; simp only [Bool.and_eq_true, decide_eq_true_eq]; omega)
        have hz : ¬ s.toList = [] := fun h => h0 (HZ.out.1 h)
        have hze : s.toList.isEmpty = false := by simpa using hz
        clear h0
        go_wp2_with (first | (go_at_call 17; refine (few_any _ _ _).mono ?_; rintro e w' ⟨rfl, rfl⟩))
        go_ret
        exact ⟨by rw [HF.out]; rfl, rfl⟩
end Go.Proofs.Ytlegehjdojhfgaa
