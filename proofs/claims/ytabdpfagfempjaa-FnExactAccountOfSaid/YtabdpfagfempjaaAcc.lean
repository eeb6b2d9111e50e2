/- The contracts of the functions about accounts. -/
import Derived.Test.YtabdpfagfempjaaEntryV
import Derived.Test.YtabdpfagfempjaaSums
import Derived.Test.YtabdpfagfempjaaMore
namespace Go.Proofs.Ytabdpfagfempjaa
open Go.RowKit
attribute [local go_sem ↓] Go.wp_at_zero Go.wp_at_succ
set_option linter.unusedVariables false

/-- What an entry changes in an account. -/
def chg (x1 x2 : ByteArray) (x3 : Int) (s : ByteArray) : Int := if (x1.toList == s.toList) = true then x3 else if (x2.toList == s.toList) = true then wrap64 (-x3) else 0

set_option maxHeartbeats 1000000 in
theorem change_any  (x0 : Int) (x1 : ByteArray) (x2 : ByteArray) (x3 : Int) (s : ByteArray) (w : World)  :
    Calls Try.prog 108 #[.agg #[.int .i64 x0, .string x1, .string x2, .int .i64 x3], .string s] w fun e w' => e = .returned (.int .i64 (chg x1 x2 x3 s)) ∧ w.alloc (.cells #[.int .i64 x0, .string x1, .string x2, .int .i64 x3] 145) = w' := by
  by_cases e1 : (x1.toList == s.toList) = true
  · have HF := Lib.hid (show chg x1 x2 x3 s = x3 by unfold chg; rw [if_pos e1])
    have q1 : x1.toList = s.toList := by simpa using e1
    have q2 : s.toList = x1.toList := q1.symm
    have q3 : (s.toList == x1.toList) = true := by simpa using q2
    clear q1 q2
    go_enter Try.func108, Try.ntmps108
    go_wp2
    go_ret
    exact ⟨by rw [HF.out]; rfl, rfl⟩
  · have e1n : (x1.toList == s.toList) = false := by simpa using e1
    have q3 : (s.toList == x1.toList) = false := by rw [beq_eq_false_iff_ne] at e1n ⊢; exact fun h => e1n h.symm
    by_cases e2 : (x2.toList == s.toList) = true
    · have HF := Lib.hid (show chg x1 x2 x3 s = wrap64 (-x3) by unfold chg; rw [if_neg e1, if_pos e2])
      have q1 : x2.toList = s.toList := by simpa using e2
      have q4 : (s.toList == x2.toList) = true := by simpa using q1.symm
      clear q1 e1
      go_enter Try.func108, Try.ntmps108
      go_wp2
      go_ret
      exact ⟨by rw [HF.out]; rfl, rfl⟩
    · have e2n : (x2.toList == s.toList) = false := by simpa using e2
      have q4 : (s.toList == x2.toList) = false := by rw [beq_eq_false_iff_ne] at e2n ⊢; exact fun h => e2n h.symm
      have HF := Lib.hid (show chg x1 x2 x3 s = 0 by unfold chg; rw [if_neg e1, if_neg e2])
      clear e1 e2
      go_enter Try.func108, Try.ntmps108
      go_wp2
      go_ret
      exact ⟨by rw [HF.out]; rfl, rfl⟩

set_option maxHeartbeats 1000000 in
theorem l25Change_any (b o : Nat) (x0 : Int) (x1 : ByteArray) (x2 : ByteArray) (x3 : Int) (s : ByteArray) (w : World) (h0 : w.cell? ⟨b, o, none⟩ = some (.int .i64 x0)) (h1 : w.cell? ⟨b, o + 1, none⟩ = some (.string x1)) (h2 : w.cell? ⟨b, o + 2, none⟩ = some (.string x2)) (h3 : w.cell? ⟨b, o + 3, none⟩ = some (.int .i64 x3)) :
    Calls Try.prog 149 #[.pointer (some ⟨b, o, none⟩), .string s] w fun e w' => e = .returned (.int .i64 (chg x1 x2 x3 s)) ∧ w = w' := by
  by_cases e1 : (x1.toList == s.toList) = true
  · have HF := Lib.hid (show chg x1 x2 x3 s = x3 by unfold chg; rw [if_pos e1])
    have q1 : x1.toList = s.toList := by simpa using e1
    have q2 : s.toList = x1.toList := q1.symm
    have q3 : (s.toList == x1.toList) = true := by simpa using q2
    clear q1 q2
    go_enter Try.func149, Try.ntmps149
    go_wp2
    go_ret
    exact ⟨by rw [HF.out]; rfl, rfl⟩
  · have e1n : (x1.toList == s.toList) = false := by simpa using e1
    have q3 : (s.toList == x1.toList) = false := by rw [beq_eq_false_iff_ne] at e1n ⊢; exact fun h => e1n h.symm
    by_cases e2 : (x2.toList == s.toList) = true
    · have HF := Lib.hid (show chg x1 x2 x3 s = wrap64 (-x3) by unfold chg; rw [if_neg e1, if_pos e2])
      have q1 : x2.toList = s.toList := by simpa using e2
      have q4 : (s.toList == x2.toList) = true := by simpa using q1.symm
      clear q1 e1
      go_enter Try.func149, Try.ntmps149
      go_wp2
      go_ret
      exact ⟨by rw [HF.out]; rfl, rfl⟩
    · have e2n : (x2.toList == s.toList) = false := by simpa using e2
      have q4 : (s.toList == x2.toList) = false := by rw [beq_eq_false_iff_ne] at e2n ⊢; exact fun h => e2n h.symm
      have HF := Lib.hid (show chg x1 x2 x3 s = 0 by unfold chg; rw [if_neg e1, if_neg e2])
      clear e1 e2
      go_enter Try.func149, Try.ntmps149
      go_wp2
      go_ret
      exact ⟨by rw [HF.out]; rfl, rfl⟩

set_option maxHeartbeats 2000000 in
theorem l25Ask_any (g n : Nat) (F0 : Nat → Int) (F1 : Nat → ByteArray) (F2 : Nat → ByteArray) (F3 : Nat → Int) (s : ByteArray) (v : Int) (w : World) (t1 : TypeId) (hn : n ≤ 1048576) (h1 : w.rowIs g t1 (n * 4) (flat 4 (rowEntry F0 F1 F2 F3))) (hS1 : ∀ i, i < n → (F1 i).size ≤ maxLen) (hS2 : ∀ i, i < n → (F2 i).size ≤ maxLen) (hs : s.size ≤ maxLen) (hv : (if (listEntry n F0 F1 F2 F3 && nameB s) = true then 0 else 1) = v) :
    Calls Try.prog 102 #[.slice (some ⟨g, 0, none⟩) n n, .string s] w fun e w' => e = .returned (.int .i64 v) ∧ Below w.heap.size w w' := by
  have hl1 := h1.lt
  have HR1 := Lib.hid (RdEntry.of_row h1)
  have H1 := Lib.hid h1
  have HS1 := Lib.hid hS1
  have HS2 := Lib.hid hS2
  clear h1 hS1 hS2
  by_cases e1 : listEntry n F0 F1 F2 F3 = true
  · by_cases e2 : nameB s = true
    · obtain rfl : v = 0 := by rw [← hv]; simp [e1, e2]
      clear hv
      go_enter Try.func102, Try.ntmps102
      go_wp2_with fail
      refine (OkEntry_any _ _ F0 F1 F2 F3 _ _ hn H1.out HS1.out HS2.out).mono ?_
      rintro e w1 ⟨rfl, hb1⟩
      go_wp2_with (go_at_call 132; refine (l01Name_any _ _ hs).mono ?_; rintro e w' ⟨rfl, rfl⟩)
      go_ret
      exact ⟨rfl, hb1⟩
    · have e2n : nameB s = false := by simpa using e2
      clear e2
      obtain rfl : v = 1 := by rw [← hv]; simp [e1, e2n]
      clear hv
      go_enter Try.func102, Try.ntmps102
      go_wp2_with fail
      refine (OkEntry_any _ _ F0 F1 F2 F3 _ _ hn H1.out HS1.out HS2.out).mono ?_
      rintro e w1 ⟨rfl, hb1⟩
      go_wp2_with (go_at_call 132; refine (l01Name_any _ _ hs).mono ?_; rintro e w' ⟨rfl, rfl⟩)
      go_ret
      exact ⟨rfl, hb1⟩
  · have e1n : listEntry n F0 F1 F2 F3 = false := by simpa using e1
    clear e1
    obtain rfl : v = 1 := by rw [← hv]; simp [e1n]
    clear hv
    go_enter Try.func102, Try.ntmps102
    go_wp2_with fail
    refine (OkEntry_any _ _ F0 F1 F2 F3 _ _ hn H1.out HS1.out HS2.out).mono ?_
    rintro e w1 ⟨rfl, hb1⟩
    go_wp2_with (go_at_call 132; refine (l01Name_any _ _ hs).mono ?_; rintro e w' ⟨rfl, rfl⟩)
    go_ret
    exact ⟨rfl, hb1⟩

/-- The balance of an account. -/
def bal (F0 : Nat → Int) (F1 : Nat → ByteArray) (F2 : Nat → ByteArray) (F3 : Nat → Int) (s : ByteArray) (day : Int) (k : Nat) : Int := foldC (fun i => decide (F0 i ≤ day)) (fun i => chg (F1 i) (F2 i) (F3 i) s) k

theorem bal_yes {F0 : Nat → Int} {F1 : Nat → ByteArray} {F2 : Nat → ByteArray} {F3 : Nat → Int} {s : ByteArray} {day : Int} {k : Nat} (h : F0 k ≤ day) : bal F0 F1 F2 F3 s day (k + 1) = wrap64 (bal F0 F1 F2 F3 s day k + chg (F1 k) (F2 k) (F3 k) s) := by
  unfold bal; exact foldC_yes (by simpa using h)

theorem bal_no {F0 : Nat → Int} {F1 : Nat → ByteArray} {F2 : Nat → ByteArray} {F3 : Nat → Int} {s : ByteArray} {day : Int} {k : Nat} (h : ¬ F0 k ≤ day) : bal F0 F1 F2 F3 s day (k + 1) = bal F0 F1 F2 F3 s day k := by
  unfold bal; exact foldC_no (by simpa using h)

set_option maxHeartbeats 2000000 in
theorem l25Balance_any (g n : Nat) (F0 : Nat → Int) (F1 : Nat → ByteArray) (F2 : Nat → ByteArray) (F3 : Nat → Int) (s : ByteArray) (day : Int) (w : World) (t1 : TypeId) (hn : n ≤ 1048576) (h1 : w.rowIs g t1 (n * 4) (flat 4 (rowEntry F0 F1 F2 F3)))   :
    Calls Try.prog 104 #[.slice (some ⟨g, 0, none⟩) n n, .string s, .int .i64 day] w fun e w' => e = .returned (.int .i64 (bal F0 F1 F2 F3 s day n)) ∧ Below w.heap.size w w' := by
  have hl1 := h1.lt
  have HR1 := Lib.hid (RdEntry.of_row h1)
  have H1 := Lib.hid h1
  clear h1 
  go_enter Try.func104, Try.ntmps104
  go_wp2
  go_loopw [7, 8] (fun v i wr => ∃ (k : Nat), k ≤ n ∧ i = .int .i64 k ∧ v = .int .i64 (bal F0 F1 F2 F3 s day k) ∧ Below w.heap.size w wr) (fun _ i _ => n - (intOf i).toNat)
  case atStart => exact ⟨0, Nat.zero_le _, rfl, rfl, Below.refl _ _⟩
  case round =>
    obtain ⟨k, hk, rfl, rfl, hbel⟩ := hrel
    by_cases hlt : k < n
    · have hlti : (k : Int) < (n : Int) := by omega
      obtain ⟨c0, c1, c2, c3⟩ := HR1.out k hlt
      have hbc := bcell hbel
      rw [← hbc _ _ hl1] at c0 c1 c2 c3
      simp only [Nat.zero_add] at c0 c1 c2 c3
      clear hbc
      by_cases hd : F0 k ≤ day
      · have HF := Lib.hid (bal_yes (F1 := F1) (F2 := F2) (F3 := F3) (s := s) hd)
        go_wp2_with (go_at_call 149; refine (l25Change_any _ _ _ _ _ _ _ _ c0 c1 c2 c3).mono ?_; rintro e w' ⟨rfl, rfl⟩)
        go_roundw
        case rel => exact ⟨k + 1, by omega, by go_num, by rw [HF.out], hbel⟩
        case measure => simp [intOf]; omega
      · have HF := Lib.hid (bal_no (F1 := F1) (F2 := F2) (F3 := F3) (s := s) hd)
        go_wp2
        go_roundw
        case rel => exact ⟨k + 1, by omega, by go_num, by rw [HF.out], hbel⟩
        case measure => simp [intOf]; omega
    · obtain rfl : k = n := by omega
      go_wp2
      go_ret
      exact ⟨rfl, hbel⟩

/-- What AccountOf hands back. -/
def accRes (n : Nat) (F0 : Nat → Int) (F1 : Nat → ByteArray) (F2 : Nat → ByteArray) (F3 : Nat → Int) (s : ByteArray) (day : Int) : Int × Int := if (listEntry n F0 F1 F2 F3 && nameB s) = true then (if inB day 0 100000 = true then (bal F0 F1 F2 F3 s day n, 0) else (0, 2)) else (0, 1)

set_option maxHeartbeats 2000000 in
theorem specAccountOf_any (g n : Nat) (F0 : Nat → Int) (F1 : Nat → ByteArray) (F2 : Nat → ByteArray) (F3 : Nat → Int) (s : ByteArray) (day v1 v2 : Int) (w : World) (t1 : TypeId) (hn : n ≤ 1048576) (h1 : w.rowIs g t1 (n * 4) (flat 4 (rowEntry F0 F1 F2 F3))) (hS1 : ∀ i, i < n → (F1 i).size ≤ maxLen) (hS2 : ∀ i, i < n → (F2 i).size ≤ maxLen) (hs : s.size ≤ maxLen) (hv : accRes n F0 F1 F2 F3 s day = (v1, v2)) :
    Calls Try.prog 45 #[.slice (some ⟨g, 0, none⟩) n n, .string s, .int .i64 day] w fun e w' => e = .returned (.tuple #[.int .i64 v1, .int .i64 v2]) ∧ Below w.heap.size w w' := by
  have hl1 := h1.lt
  have HR1 := Lib.hid (RdEntry.of_row h1)
  have H1 := Lib.hid h1
  have HS1 := Lib.hid hS1
  have HS2 := Lib.hid hS2
  clear h1 hS1 hS2
  by_cases e1 : (listEntry n F0 F1 F2 F3 && nameB s) = true
  · by_cases e2 : inB day 0 100000 = true
    · obtain ⟨rfl, rfl⟩ : v1 = bal F0 F1 F2 F3 s day n ∧ v2 = 0 := by unfold accRes at hv; rw [if_pos e1, if_pos e2] at hv; simpa [eq_comm] using hv
      clear hv
      have E1 := Lib.hid e1
      clear e1
      go_enter Try.func45, Try.ntmps45
      go_wp2_with fail
      refine (l25Ask_any _ _ F0 F1 F2 F3 _ 0 _ _ hn H1.out HS1.out HS2.out hs (by rw [if_pos E1.out])).mono ?_
      rintro e w1 ⟨rfl, hb1⟩
      have H2 := Lib.hid (row_below H1.out hb1 H1.out.lt)
      go_wp2_with (first | (go_at_call 103; refine (l21Day_any _ _).mono ?_; rintro e w' ⟨rfl, rfl⟩))
      refine (l25Balance_any _ _ F0 F1 F2 F3 _ _ _ _ hn H2.out).mono ?_
      rintro e w2 ⟨rfl, hb2⟩
      go_wp2
      go_ret2
      exact ⟨rfl, hb1.trans (hb2.mono hb1.size)⟩
    · have e2n : inB day 0 100000 = false := by simpa using e2
      obtain ⟨rfl, rfl⟩ : v1 = 0 ∧ v2 = 2 := by unfold accRes at hv; rw [if_pos e1, if_neg e2] at hv; simpa [eq_comm] using hv
      clear hv e2
      have E1 := Lib.hid e1
      clear e1
      go_enter Try.func45, Try.ntmps45
      go_wp2_with fail
      refine (l25Ask_any _ _ F0 F1 F2 F3 _ 0 _ _ hn H1.out HS1.out HS2.out hs (by rw [if_pos E1.out])).mono ?_
      rintro e w1 ⟨rfl, hb1⟩
      go_wp2_with (first | (go_at_call 103; refine (l21Day_any _ _).mono ?_; rintro e w' ⟨rfl, rfl⟩))
      go_ret2
      exact ⟨rfl, hb1⟩
  · obtain ⟨rfl, rfl⟩ : v1 = 0 ∧ v2 = 1 := by unfold accRes at hv; rw [if_neg e1] at hv; simpa [eq_comm] using hv
    clear hv
    have E1 := Lib.hid e1
    clear e1
    go_enter Try.func45, Try.ntmps45
    go_wp2_with fail
    refine (l25Ask_any _ _ F0 F1 F2 F3 _ 1 _ _ hn H1.out HS1.out HS2.out hs (by rw [if_neg E1.out])).mono ?_
    rintro e w1 ⟨rfl, hb1⟩
    go_wp2
    go_ret2
    exact ⟨rfl, hb1⟩

set_option maxHeartbeats 2000000 in
theorem implAccountOf_any (g n : Nat) (F0 : Nat → Int) (F1 : Nat → ByteArray) (F2 : Nat → ByteArray) (F3 : Nat → Int) (s : ByteArray) (day v1 v2 : Int) (w : World) (t1 : TypeId) (hn : n ≤ 1048576) (h1 : w.rowIs g t1 (n * 4) (flat 4 (rowEntry F0 F1 F2 F3))) (hS1 : ∀ i, i < n → (F1 i).size ≤ maxLen) (hS2 : ∀ i, i < n → (F2 i).size ≤ maxLen) (hs : s.size ≤ maxLen) (hv : accRes n F0 F1 F2 F3 s day = (v1, v2)) :
    Calls Try.prog 47 #[.slice (some ⟨g, 0, none⟩) n n, .string s, .int .i64 day] w fun e w' => e = .returned (.tuple #[.int .i64 v1, .int .i64 v2]) ∧ Below w.heap.size w w' := by
  have hl1 := h1.lt
  have HR1 := Lib.hid (RdEntry.of_row h1)
  have H1 := Lib.hid h1
  have HS1 := Lib.hid hS1
  have HS2 := Lib.hid hS2
  clear h1 hS1 hS2
  by_cases e1 : (listEntry n F0 F1 F2 F3 && nameB s) = true
  · by_cases e2 : inB day 0 100000 = true
    · obtain ⟨rfl, rfl⟩ : v1 = bal F0 F1 F2 F3 s day n ∧ v2 = 0 := by unfold accRes at hv; rw [if_pos e1, if_pos e2] at hv; simpa [eq_comm] using hv
      clear hv
      obtain ⟨f1, f2⟩ := by rw [Bool.and_eq_true] at e1; exact e1
      clear e1
      go_enter Try.func47, Try.ntmps47
      go_wp2_with fail
      refine (ValidEntry_any _ _ F0 F1 F2 F3 _ _ hn H1.out HS1.out HS2.out).mono ?_
      rintro e w1 ⟨rfl, hb1⟩
      go_wp2_with (first | (go_at_call 106; refine (IsName_any _ _ hs).mono ?_; rintro e w' ⟨rfl, rfl⟩) | (go_at_call 131; refine (within_any _ _ _ _).mono ?_; rintro e w' ⟨rfl, rfl⟩) | go_in)
      go_loopw [8, 24] (fun v i wr => ∃ (k : Nat), k ≤ n ∧ i = .int .i64 k ∧ v = .int .i64 (bal F0 F1 F2 F3 s day k) ∧ Below w.heap.size w wr) (fun _ i _ => n - (intOf i).toNat)
      case atStart => exact ⟨0, Nat.zero_le _, rfl, rfl, hb1⟩
      case round =>
        obtain ⟨k, hk, rfl, rfl, hbel⟩ := hrel
        by_cases hlt : k < n
        · have hlti : (k : Int) < (n : Int) := by omega
          obtain ⟨c0, c1, c2, c3⟩ := HR1.out k hlt
          have hbc := bcell hbel
          rw [← hbc _ _ hl1] at c0 c1 c2 c3
          simp only [Nat.zero_add] at c0 c1 c2 c3
          clear hbc
          by_cases hd : F0 k ≤ day
          · have HF := Lib.hid (bal_yes (F1 := F1) (F2 := F2) (F3 := F3) (s := s) hd)
            go_wp2_with (go_at_call 108; refine (change_any _ _ _ _ _ _).mono ?_; rintro e w' ⟨rfl, rfl⟩)
            go_roundw
            case rel => first | exact ⟨k + 1, by omega, by go_num, by rw [HF.out], below2 hbel _ _⟩ | ((repeat apply Exists.intro); exact ⟨⟨k + 1, by omega, by go_num, by rw [HF.out], below2 hbel _ _⟩, rfl⟩)
            case measure => simp [intOf]; omega
          · have HF := Lib.hid (bal_no (F1 := F1) (F2 := F2) (F3 := F3) (s := s) hd)
            go_wp2
            go_roundw
            case rel => exact ⟨k + 1, by omega, by go_num, by rw [HF.out], hbel.alloc hbel.size _⟩
            case measure => simp [intOf]; omega
        · obtain rfl : k = n := by omega
          go_wp2
          go_ret2
          exact ⟨rfl, hbel⟩
    · have e2n : inB day 0 100000 = false := by simpa using e2
      obtain ⟨rfl, rfl⟩ : v1 = 0 ∧ v2 = 2 := by unfold accRes at hv; rw [if_pos e1, if_neg e2] at hv; simpa [eq_comm] using hv
      clear hv e2
      obtain ⟨f1, f2⟩ := by rw [Bool.and_eq_true] at e1; exact e1
      clear e1
      go_enter Try.func47, Try.ntmps47
      go_wp2_with fail
      refine (ValidEntry_any _ _ F0 F1 F2 F3 _ _ hn H1.out HS1.out HS2.out).mono ?_
      rintro e w1 ⟨rfl, hb1⟩
      go_wp2_with (first | (go_at_call 106; refine (IsName_any _ _ hs).mono ?_; rintro e w' ⟨rfl, rfl⟩) | (go_at_call 131; refine (within_any _ _ _ _).mono ?_; rintro e w' ⟨rfl, rfl⟩) | go_in)
      go_ret2
      exact ⟨rfl, hb1⟩
  · obtain ⟨rfl, rfl⟩ : v1 = 0 ∧ v2 = 1 := by unfold accRes at hv; rw [if_neg e1] at hv; simpa [eq_comm] using hv
    clear hv
    by_cases f1 : listEntry n F0 F1 F2 F3 = true
    · have f2 : nameB s = false := by rw [f1] at e1; simpa using e1
      clear e1
      go_enter Try.func47, Try.ntmps47
      go_wp2_with fail
      refine (ValidEntry_any _ _ F0 F1 F2 F3 _ _ hn H1.out HS1.out HS2.out).mono ?_
      rintro e w1 ⟨rfl, hb1⟩
      go_wp2_with (first | (go_at_call 106; refine (IsName_any _ _ hs).mono ?_; rintro e w' ⟨rfl, rfl⟩) | (go_at_call 131; refine (within_any _ _ _ _).mono ?_; rintro e w' ⟨rfl, rfl⟩) | go_in)
      go_ret2
      exact ⟨rfl, hb1⟩
    · have f1n : listEntry n F0 F1 F2 F3 = false := by simpa using f1
      clear e1 f1
      go_enter Try.func47, Try.ntmps47
      go_wp2_with fail
      refine (ValidEntry_any _ _ F0 F1 F2 F3 _ _ hn H1.out HS1.out HS2.out).mono ?_
      rintro e w1 ⟨rfl, hb1⟩
      go_wp2_with (first | (go_at_call 106; refine (IsName_any _ _ hs).mono ?_; rintro e w' ⟨rfl, rfl⟩) | (go_at_call 131; refine (within_any _ _ _ _).mono ?_; rintro e w' ⟨rfl, rfl⟩) | go_in)
      go_ret2
      exact ⟨rfl, hb1⟩
end Go.Proofs.Ytabdpfagfempjaa
