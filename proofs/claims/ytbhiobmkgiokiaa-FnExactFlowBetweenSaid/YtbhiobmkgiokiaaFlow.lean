/- The contracts of FlowBetween. -/
import Derived.Test.YtbhiobmkgiokiaaEntryV
import Derived.Test.YtbhiobmkgiokiaaSums
import Derived.Test.YtbhiobmkgiokiaaMore
namespace Go.Proofs.Ytbhiobmkgiokiaa
open Go.RowKit
attribute [local go_sem ↓] Go.wp_at_zero Go.wp_at_succ
set_option linter.unusedVariables false

/-- Does entry k go from one to the other? -/
def goes (F1 F2 : Nat → ByteArray) (s t : ByteArray) (k : Nat) : Bool := ((F2 k).toList == s.toList) && ((F1 k).toList == t.toList)

/-- What the function hands back. -/
def flowRes (n : Nat) (F0 : Nat → Int) (F1 : Nat → ByteArray) (F2 : Nat → ByteArray) (F3 : Nat → Int) (s t : ByteArray) : Int × Int := (if listEntry n F0 F1 F2 F3 = true then (if nameB s = true then (if nameB t = true then (foldC (goes F1 F2 s t) F3 n, 0) else (0, 1)) else (0, 1)) else (0, 1))

set_option maxHeartbeats 2000000 in
theorem specFlowBetween_any (g n : Nat) (F0 : Nat → Int) (F1 : Nat → ByteArray) (F2 : Nat → ByteArray) (F3 : Nat → Int) (s t : ByteArray) (v1 : Int) (v2 : Int) (w : World) (t1 : TypeId) (hn : n ≤ 1048576) (h1 : w.rowIs g t1 (n * 4) (flat 4 (rowEntry F0 F1 F2 F3))) (hS1 : ∀ i, i < n → (F1 i).size ≤ maxLen) (hS2 : ∀ i, i < n → (F2 i).size ≤ maxLen) (hs : s.size ≤ maxLen) (ht : t.size ≤ maxLen) (hv : flowRes n F0 F1 F2 F3 s t = (v1, v2)) :
    Calls Try.prog 48 #[.slice (some ⟨g, 0, none⟩) n n, .string s, .string t] w fun e w' => e = .returned (.tuple #[.int .i64 v1, .int .i64 v2]) ∧ Below w.heap.size w w' := by
  have hl1 := h1.lt
  have HR1 := Lib.hid (RdEntry.of_row h1)
  have H1 := Lib.hid h1
  have HS1 := Lib.hid hS1
  have HS2 := Lib.hid hS2
  clear h1 hS1 hS2
  by_cases e0 : listEntry n F0 F1 F2 F3 = true
  case neg =>
    obtain ⟨rfl, rfl⟩ : v1 = 0 ∧ v2 = 1 := by unfold flowRes at hv; rw [if_neg e0] at hv; simpa [eq_comm] using hv
    have e0n : (listEntry n F0 F1 F2 F3) = false := by simpa using e0
    clear hv e0
    go_enter Try.func48, Try.ntmps48
    go_wp2_with fail
    refine (OkEntry_any _ _ F0 F1 F2 F3 _ _ hn H1.out HS1.out HS2.out).mono ?_
    rintro e w1 ⟨rfl, hb1⟩
    go_wp2_with (first | (go_at_call 108; refine (l01Name_any _ _ (by assumption)).mono ?_; rintro e w' ⟨rfl, rfl⟩) | go_in)
    go_ret2
    exact ⟨rfl, hb1⟩
  by_cases e1 : nameB s = true
  case neg =>
    obtain ⟨rfl, rfl⟩ : v1 = 0 ∧ v2 = 1 := by unfold flowRes at hv; rw [if_pos e0, if_neg e1] at hv; simpa [eq_comm] using hv
    have e1n : (nameB s) = false := by simpa using e1
    clear hv e1
    go_enter Try.func48, Try.ntmps48
    go_wp2_with fail
    refine (OkEntry_any _ _ F0 F1 F2 F3 _ _ hn H1.out HS1.out HS2.out).mono ?_
    rintro e w1 ⟨rfl, hb1⟩
    go_wp2_with (first | (go_at_call 108; refine (l01Name_any _ _ (by assumption)).mono ?_; rintro e w' ⟨rfl, rfl⟩) | go_in)
    go_ret2
    exact ⟨rfl, hb1⟩
  by_cases e2 : nameB t = true
  case neg =>
    obtain ⟨rfl, rfl⟩ : v1 = 0 ∧ v2 = 1 := by unfold flowRes at hv; rw [if_pos e0, if_pos e1, if_neg e2] at hv; simpa [eq_comm] using hv
    have e2n : (nameB t) = false := by simpa using e2
    clear hv e2
    go_enter Try.func48, Try.ntmps48
    go_wp2_with fail
    refine (OkEntry_any _ _ F0 F1 F2 F3 _ _ hn H1.out HS1.out HS2.out).mono ?_
    rintro e w1 ⟨rfl, hb1⟩
    go_wp2_with (first | (go_at_call 108; refine (l01Name_any _ _ (by assumption)).mono ?_; rintro e w' ⟨rfl, rfl⟩) | go_in)
    go_ret2
    exact ⟨rfl, hb1⟩
  replace hv : (foldC (goes F1 F2 s t) F3 n, 0) = (v1, v2) := by unfold flowRes at hv; rw [if_pos e0, if_pos e1, if_pos e2] at hv; exact hv
  have HV := Lib.hid hv
  clear hv
  go_enter Try.func48, Try.ntmps48
  go_wp2_with fail
  refine (OkEntry_any _ _ F0 F1 F2 F3 _ _ hn H1.out HS1.out HS2.out).mono ?_
  rintro e w1 ⟨rfl, hb1⟩
  have H2 := Lib.hid (row_below H1.out hb1 H1.out.lt)
  go_wp2_with (first | (go_at_call 108; refine (l01Name_any _ _ (by assumption)).mono ?_; rintro e w' ⟨rfl, rfl⟩))
  go_loopw [8, 9] (fun v i wr => ∃ (k : Nat), k ≤ n ∧ i = .int .i64 k ∧ v = .int .i64 (foldC (goes F1 F2 s t) F3 k) ∧ Below w.heap.size w wr) (fun _ i _ => n - (intOf i).toNat)
  case atStart => exact ⟨0, Nat.zero_le _, rfl, rfl, hb1⟩
  case round =>
    obtain ⟨k, hk, rfl, rfl, hbel⟩ := hrel
    by_cases hlt : k < n
    · have hlti : (k : Int) < (n : Int) := by omega
      obtain ⟨c0, c1, c2, c3⟩ := HR1.out k hlt
      have hbc := bcell hbel
      rw [← hbc _ _ hl1] at c0 c1 c2 c3
      simp only [Nat.zero_add] at c0 c1 c2 c3
      clear hbc
      by_cases g1 : ((F2 k).toList == s.toList) = true
      · by_cases g2 : ((F1 k).toList == t.toList) = true
        · have HF := Lib.hid (foldC_yes (f := F3) (show goes F1 F2 s t k = true by unfold goes; rw [g1, g2]; rfl))
          go_wp2
          go_roundw
          case rel => first | exact ⟨k + 1, by omega, by go_num, by rw [HF.out], hbel⟩ | ((repeat apply Exists.intro); exact ⟨⟨k + 1, by omega, by go_num, by rw [HF.out], hbel⟩, rfl⟩)
          case measure => simp [intOf]; omega
        · have g2n : ((F1 k).toList == t.toList) = false := by simpa using g2
          clear g2
          have HF := Lib.hid (foldC_no (f := F3) (show goes F1 F2 s t k = false by unfold goes; rw [g1, g2n]; rfl))
          go_wp2
          go_roundw
          case rel => first | exact ⟨k + 1, by omega, by go_num, by rw [HF.out], hbel⟩ | ((repeat apply Exists.intro); exact ⟨⟨k + 1, by omega, by go_num, by rw [HF.out], hbel⟩, rfl⟩)
          case measure => simp [intOf]; omega
      · have g1n : ((F2 k).toList == s.toList) = false := by simpa using g1
        clear g1
        have HF := Lib.hid (foldC_no (f := F3) (show goes F1 F2 s t k = false by unfold goes; rw [g1n]; rfl))
        go_wp2
        go_roundw
        case rel => first | exact ⟨k + 1, by omega, by go_num, by rw [HF.out], hbel⟩ | ((repeat apply Exists.intro); exact ⟨⟨k + 1, by omega, by go_num, by rw [HF.out], hbel⟩, rfl⟩)
        case measure => simp [intOf]; omega
    · obtain rfl : k = n := by omega
      have hv := HV.out
      simp only [Prod.mk.injEq] at hv
      go_wp2
      go_ret2
      exact ⟨by rw [← hv.1, ← hv.2]; rfl, hbel⟩

set_option maxHeartbeats 2000000 in
theorem implFlowBetween_any (g n : Nat) (F0 : Nat → Int) (F1 : Nat → ByteArray) (F2 : Nat → ByteArray) (F3 : Nat → Int) (s t : ByteArray) (v1 : Int) (v2 : Int) (w : World) (t1 : TypeId) (hn : n ≤ 1048576) (h1 : w.rowIs g t1 (n * 4) (flat 4 (rowEntry F0 F1 F2 F3))) (hS1 : ∀ i, i < n → (F1 i).size ≤ maxLen) (hS2 : ∀ i, i < n → (F2 i).size ≤ maxLen) (hs : s.size ≤ maxLen) (ht : t.size ≤ maxLen) (hv : flowRes n F0 F1 F2 F3 s t = (v1, v2)) :
    Calls Try.prog 50 #[.slice (some ⟨g, 0, none⟩) n n, .string s, .string t] w fun e w' => e = .returned (.tuple #[.int .i64 v1, .int .i64 v2]) ∧ Below w.heap.size w w' := by
  have hl1 := h1.lt
  have HR1 := Lib.hid (RdEntry.of_row h1)
  have H1 := Lib.hid h1
  have HS1 := Lib.hid hS1
  have HS2 := Lib.hid hS2
  clear h1 hS1 hS2
  by_cases e0 : listEntry n F0 F1 F2 F3 = true
  case neg =>
    obtain ⟨rfl, rfl⟩ : v1 = 0 ∧ v2 = 1 := by unfold flowRes at hv; rw [if_neg e0] at hv; simpa [eq_comm] using hv
    have e0n : (listEntry n F0 F1 F2 F3) = false := by simpa using e0
    clear hv e0
    go_enter Try.func50, Try.ntmps50
    go_wp2_with fail
    refine (ValidEntry_any _ _ F0 F1 F2 F3 _ _ hn H1.out HS1.out HS2.out).mono ?_
    rintro e w1 ⟨rfl, hb1⟩
    go_wp2_with (first | (go_at_call 111; refine (IsName_any _ _ (by assumption)).mono ?_; rintro e w' ⟨rfl, rfl⟩) | go_in)
    go_ret2
    exact ⟨rfl, hb1⟩
  by_cases e1 : nameB s = true
  case neg =>
    obtain ⟨rfl, rfl⟩ : v1 = 0 ∧ v2 = 1 := by unfold flowRes at hv; rw [if_pos e0, if_neg e1] at hv; simpa [eq_comm] using hv
    have e1n : (nameB s) = false := by simpa using e1
    clear hv e1
    go_enter Try.func50, Try.ntmps50
    go_wp2_with fail
    refine (ValidEntry_any _ _ F0 F1 F2 F3 _ _ hn H1.out HS1.out HS2.out).mono ?_
    rintro e w1 ⟨rfl, hb1⟩
    go_wp2_with (first | (go_at_call 111; refine (IsName_any _ _ (by assumption)).mono ?_; rintro e w' ⟨rfl, rfl⟩) | go_in)
    go_ret2
    exact ⟨rfl, hb1⟩
  by_cases e2 : nameB t = true
  case neg =>
    obtain ⟨rfl, rfl⟩ : v1 = 0 ∧ v2 = 1 := by unfold flowRes at hv; rw [if_pos e0, if_pos e1, if_neg e2] at hv; simpa [eq_comm] using hv
    have e2n : (nameB t) = false := by simpa using e2
    clear hv e2
    go_enter Try.func50, Try.ntmps50
    go_wp2_with fail
    refine (ValidEntry_any _ _ F0 F1 F2 F3 _ _ hn H1.out HS1.out HS2.out).mono ?_
    rintro e w1 ⟨rfl, hb1⟩
    go_wp2_with (first | (go_at_call 111; refine (IsName_any _ _ (by assumption)).mono ?_; rintro e w' ⟨rfl, rfl⟩) | go_in)
    go_ret2
    exact ⟨rfl, hb1⟩
  replace hv : (foldC (goes F1 F2 s t) F3 n, 0) = (v1, v2) := by unfold flowRes at hv; rw [if_pos e0, if_pos e1, if_pos e2] at hv; exact hv
  have HV := Lib.hid hv
  clear hv
  go_enter Try.func50, Try.ntmps50
  go_wp2_with fail
  refine (ValidEntry_any _ _ F0 F1 F2 F3 _ _ hn H1.out HS1.out HS2.out).mono ?_
  rintro e w1 ⟨rfl, hb1⟩
  have H2 := Lib.hid (row_below H1.out hb1 H1.out.lt)
  go_wp2_with (first | (go_at_call 111; refine (IsName_any _ _ (by assumption)).mono ?_; rintro e w' ⟨rfl, rfl⟩))
  go_loopw [8, 26] (fun v i wr => ∃ (k : Nat), k ≤ n ∧ i = .int .i64 k ∧ v = .int .i64 (foldC (goes F1 F2 s t) F3 k) ∧ Below w.heap.size w wr) (fun _ i _ => n - (intOf i).toNat)
  case atStart => exact ⟨0, Nat.zero_le _, rfl, rfl, hb1⟩
  case round =>
    obtain ⟨k, hk, rfl, rfl, hbel⟩ := hrel
    by_cases hlt : k < n
    · have hlti : (k : Int) < (n : Int) := by omega
      obtain ⟨c0, c1, c2, c3⟩ := HR1.out k hlt
      have hbc := bcell hbel
      rw [← hbc _ _ hl1] at c0 c1 c2 c3
      simp only [Nat.zero_add] at c0 c1 c2 c3
      clear hbc
      by_cases g1 : ((F2 k).toList == s.toList) = true
      · by_cases g2 : ((F1 k).toList == t.toList) = true
        · have HF := Lib.hid (foldC_yes (f := F3) (show goes F1 F2 s t k = true by unfold goes; rw [g1, g2]; rfl))
          go_wp2
          go_roundw
          case rel => first | exact ⟨k + 1, by omega, by go_num, by rw [HF.out], hbel.alloc hbel.size _⟩ | ((repeat apply Exists.intro); exact ⟨⟨k + 1, by omega, by go_num, by rw [HF.out], hbel.alloc hbel.size _⟩, rfl⟩)
          case measure => simp [intOf]; omega
        · have g2n : ((F1 k).toList == t.toList) = false := by simpa using g2
          clear g2
          have HF := Lib.hid (foldC_no (f := F3) (show goes F1 F2 s t k = false by unfold goes; rw [g1, g2n]; rfl))
          go_wp2
          go_roundw
          case rel => first | exact ⟨k + 1, by omega, by go_num, by rw [HF.out], hbel.alloc hbel.size _⟩ | ((repeat apply Exists.intro); exact ⟨⟨k + 1, by omega, by go_num, by rw [HF.out], hbel.alloc hbel.size _⟩, rfl⟩)
          case measure => simp [intOf]; omega
      · have g1n : ((F2 k).toList == s.toList) = false := by simpa using g1
        clear g1
        have HF := Lib.hid (foldC_no (f := F3) (show goes F1 F2 s t k = false by unfold goes; rw [g1n]; rfl))
        go_wp2
        go_roundw
        case rel => first | exact ⟨k + 1, by omega, by go_num, by rw [HF.out], hbel.alloc hbel.size _⟩ | ((repeat apply Exists.intro); exact ⟨⟨k + 1, by omega, by go_num, by rw [HF.out], hbel.alloc hbel.size _⟩, rfl⟩)
        case measure => simp [intOf]; omega
    · obtain rfl : k = n := by omega
      have hv := HV.out
      simp only [Prod.mk.injEq] at hv
      go_wp2
      go_ret2
      exact ⟨by rw [← hv.1, ← hv.2]; rfl, hbel⟩
end Go.Proofs.Ytbhiobmkgiokiaa
