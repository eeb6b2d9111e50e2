/- The contracts of the validity of the type Paper and of its lists, in the program and in the reference: both are one and the same Bool. -/
import Derived.Test.YtkoijgeacekeaaaPaper
import Derived.Test.YtkoijgeacekeaaaMore
namespace Go.Proofs.Ytkoijgeacekeaaa
open Go.RowKit
attribute [local go_sem ↓] Go.wp_at_zero Go.wp_at_succ
/-- A Paper that is valid. -/
def vPaper (x0 : ByteArray) (x1 : ByteArray) (x2 : Int) (x3 : Int) (x4 : Int) : Bool := nameB x0 && (nameB x1 && (inB x2 1500 2100 && (inB x3 1500 2100 && (decide (x2 ≤ x3) && inB x4 1 1000))))

theorem vPaper_eq (x0 : ByteArray) (x1 : ByteArray) (x2 : Int) (x3 : Int) (x4 : Int) : vPaper x0 x1 x2 x3 x4 = (nameB x0 && (nameB x1 && (decide (1500 ≤ x2) && (decide (x2 ≤ x3) && (decide (x3 ≤ 2100) && inB x4 1 1000))))) := by
  unfold vPaper inB
  cases nameB x0 <;> cases nameB x1 <;> simp only [Bool.false_and, Bool.true_and]
  rw [Bool.eq_iff_iff]
  simp only [Bool.and_eq_true, decide_eq_true_eq]
  omega

set_option maxHeartbeats 1000000 in
theorem validPaper_any (x0 : ByteArray) (x1 : ByteArray) (x2 : Int) (x3 : Int) (x4 : Int) (w : World) (hs0 : x0.size ≤ maxLen) (hs1 : x1.size ≤ maxLen) :
    Calls Try.prog 57 #[.agg #[.string x0, .string x1, .int .i64 x2, .int .i64 x3, .int .i64 x4]] w fun e w' => e = .returned (.bool (vPaper x0 x1 x2 x3 x4)) ∧ w.alloc (.cells #[.string x0, .string x1, .int .i64 x2, .int .i64 x3, .int .i64 x4] 67) = w' := by
  go_enter Try.func57, Try.ntmps57
  go_wp2_with (first | (go_at_call 93; refine (IsName_any _ _ (by assumption)).mono ?_; rintro e w' ⟨rfl, rfl⟩) | (go_at_call 61; refine (within_any _ _ _ _).mono ?_; rintro e w' ⟨rfl, rfl⟩) | go_in)
  all_goals (go_ret; exact ⟨by rw [vPaper_eq]; simp [*]; try omega, rfl⟩)

set_option maxHeartbeats 400000 in
theorem l20Year_any (n : Int) (w : World) :
    Calls Try.prog 59 #[.int .i64 n] w fun e w' => e = .returned (.bool (inB n 1500 2100)) ∧ w = w' := by
  go_enter Try.func59, Try.ntmps59
  go_wp2_with (go_at_call 94; refine (l00In_any _ _ _ _).mono ?_; rintro e w' ⟨rfl, rfl⟩)
  go_ret
  exact ⟨rfl, rfl⟩

set_option maxHeartbeats 2000000 in
theorem onePaper_any (b o : Nat) (x0 : ByteArray) (x1 : ByteArray) (x2 : Int) (x3 : Int) (x4 : Int) (w : World) (hs0 : x0.size ≤ maxLen) (hs1 : x1.size ≤ maxLen) (h0 : w.cell? ⟨b, o, none⟩ = some (.string x0)) (h1 : w.cell? ⟨b, o + 1, none⟩ = some (.string x1)) (h2 : w.cell? ⟨b, o + 2, none⟩ = some (.int .i64 x2)) (h3 : w.cell? ⟨b, o + 3, none⟩ = some (.int .i64 x3)) (h4 : w.cell? ⟨b, o + 4, none⟩ = some (.int .i64 x4)) :
    Calls Try.prog 90 #[.pointer (some ⟨b, o, none⟩)] w fun e w' => e = .returned (.bool (vPaper x0 x1 x2 x3 x4)) ∧ ∃ q, w' = w.drewN q := by
  by_cases e0 : (nameB x0) = true
  case neg =>
    have f0 : (nameB x0) = false := by simpa using e0
    clear e0
    have HF := Lib.hid (show vPaper x0 x1 x2 x3 x4 = false by unfold vPaper; simp only [f0]; simp)
    go_enter Try.func90, Try.ntmps90
    go_wp2
    go_big_quiet (first | (go_at_call 103; exact still_quiet (calls_is (l01Name_any _ _ (by assumption)) (by assumption))) | (go_at_call 94; exact still_quiet (calls_is (l00In_any _ _ _ _) (by assumption))) | (go_at_call 59; exact still_quiet (calls_is (l20Year_any _ _) (by assumption))))
    go_wp2
    go_ret
    exact ⟨by rw [HF.out]; rfl, _, rfl⟩
  by_cases e1 : (nameB x1) = true
  case neg =>
    have f1 : (nameB x1) = false := by simpa using e1
    clear e1
    have HF := Lib.hid (show vPaper x0 x1 x2 x3 x4 = false by unfold vPaper; simp only [e0, f1]; simp)
    go_enter Try.func90, Try.ntmps90
    go_wp2
    go_big_quiet (first | (go_at_call 103; exact still_quiet (calls_is (l01Name_any _ _ (by assumption)) (by assumption))) | (go_at_call 94; exact still_quiet (calls_is (l00In_any _ _ _ _) (by assumption))) | (go_at_call 59; exact still_quiet (calls_is (l20Year_any _ _) (by assumption))))
    go_wp2
    go_ret
    exact ⟨by rw [HF.out]; rfl, _, rfl⟩
  by_cases e2 : (inB x2 1500 2100) = true
  case neg =>
    have f2 : (inB x2 1500 2100) = false := by simpa using e2
    clear e2
    have HF := Lib.hid (show vPaper x0 x1 x2 x3 x4 = false by unfold vPaper; simp only [e0, e1, f2]; simp)
    go_enter Try.func90, Try.ntmps90
    go_wp2
    go_big_quiet (first | (go_at_call 103; exact still_quiet (calls_is (l01Name_any _ _ (by assumption)) (by assumption))) | (go_at_call 94; exact still_quiet (calls_is (l00In_any _ _ _ _) (by assumption))) | (go_at_call 59; exact still_quiet (calls_is (l20Year_any _ _) (by assumption))))
    go_wp2
    go_ret
    exact ⟨by rw [HF.out]; rfl, _, rfl⟩
  by_cases e3 : (inB x3 1500 2100) = true
  case neg =>
    have f3 : (inB x3 1500 2100) = false := by simpa using e3
    clear e3
    have HF := Lib.hid (show vPaper x0 x1 x2 x3 x4 = false by unfold vPaper; simp only [e0, e1, e2, f3]; simp)
    go_enter Try.func90, Try.ntmps90
    go_wp2
    go_big_quiet (first | (go_at_call 103; exact still_quiet (calls_is (l01Name_any _ _ (by assumption)) (by assumption))) | (go_at_call 94; exact still_quiet (calls_is (l00In_any _ _ _ _) (by assumption))) | (go_at_call 59; exact still_quiet (calls_is (l20Year_any _ _) (by assumption))))
    go_wp2
    go_ret
    exact ⟨by rw [HF.out]; rfl, _, rfl⟩
  by_cases e4 : (decide (x2 ≤ x3)) = true
  case neg =>
    have f4 : (decide (x2 ≤ x3)) = false := by simpa using e4
    clear e4
    have HF := Lib.hid (show vPaper x0 x1 x2 x3 x4 = false by unfold vPaper; simp only [e0, e1, e2, e3, f4]; simp)
    go_enter Try.func90, Try.ntmps90
    go_wp2
    go_big_quiet (first | (go_at_call 103; exact still_quiet (calls_is (l01Name_any _ _ (by assumption)) (by assumption))) | (go_at_call 94; exact still_quiet (calls_is (l00In_any _ _ _ _) (by assumption))) | (go_at_call 59; exact still_quiet (calls_is (l20Year_any _ _) (by assumption))))
    go_wp2
    go_ret
    exact ⟨by rw [HF.out]; rfl, _, rfl⟩
  by_cases e5 : (inB x4 1 1000) = true
  case neg =>
    have f5 : (inB x4 1 1000) = false := by simpa using e5
    clear e5
    have HF := Lib.hid (show vPaper x0 x1 x2 x3 x4 = false by unfold vPaper; simp only [e0, e1, e2, e3, e4, f5]; simp)
    go_enter Try.func90, Try.ntmps90
    go_wp2
    go_big_quiet (first | (go_at_call 103; exact still_quiet (calls_is (l01Name_any _ _ (by assumption)) (by assumption))) | (go_at_call 94; exact still_quiet (calls_is (l00In_any _ _ _ _) (by assumption))) | (go_at_call 59; exact still_quiet (calls_is (l20Year_any _ _) (by assumption))))
    go_wp2
    go_ret
    exact ⟨by rw [HF.out]; rfl, _, rfl⟩
  have HF := Lib.hid (show vPaper x0 x1 x2 x3 x4 = true by unfold vPaper; simp only [e0, e1, e2, e3, e4, e5]; simp)
  go_enter Try.func90, Try.ntmps90
  go_wp2
  go_big_quiet (first | (go_at_call 103; exact still_quiet (calls_is (l01Name_any _ _ (by assumption)) (by assumption))) | (go_at_call 94; exact still_quiet (calls_is (l00In_any _ _ _ _) (by assumption))) | (go_at_call 59; exact still_quiet (calls_is (l20Year_any _ _) (by assumption))))
  go_wp2
  go_ret
  exact ⟨by rw [HF.out]; rfl, _, rfl⟩

/-- The element at place i is valid and stands behind the one before it. -/
def okPaper (F0 : Nat → ByteArray) (F1 : Nat → ByteArray) (F2 : Nat → Int) (F3 : Nat → Int) (F4 : Nat → Int) (i : Nat) : Bool := vPaper (F0 i) (F1 i) (F2 i) (F3 i) (F4 i) && (decide (i = 0) || Op.bytesLess (F0 (i - 1)).toList (F0 i).toList)

/-- A list of Papers that is valid. -/
def listPaper (n : Nat) (F0 : Nat → ByteArray) (F1 : Nat → ByteArray) (F2 : Nat → Int) (F3 : Nat → Int) (F4 : Nat → Int) : Bool := allB n (okPaper F0 F1 F2 F3 F4) && decide ((n : Int) ≤ 12)

theorem listPaper_out {n : Nat} {F0 : Nat → ByteArray} {F1 : Nat → ByteArray} {F2 : Nat → Int} {F3 : Nat → Int} {F4 : Nat → Int} (k : Nat) (hk : k < n) (h : okPaper F0 F1 F2 F3 F4 k = false) : listPaper n F0 F1 F2 F3 F4 = false := by
  unfold listPaper; rw [allB_false k hk h]; rfl

theorem listPaper_end {n : Nat} {F0 : Nat → ByteArray} {F1 : Nat → ByteArray} {F2 : Nat → Int} {F3 : Nat → Int} {F4 : Nat → Int} (h : allB n (okPaper F0 F1 F2 F3 F4) = true) : listPaper n F0 F1 F2 F3 F4 = decide ((n : Int) ≤ 12) := by
  unfold listPaper; rw [h]; rfl

theorem listPaper_at {n : Nat} {F0 : Nat → ByteArray} {F1 : Nat → ByteArray} {F2 : Nat → Int} {F3 : Nat → Int} {F4 : Nat → Int} (h : listPaper n F0 F1 F2 F3 F4 = true) (k : Nat) (hk : k < n) : vPaper (F0 k) (F1 k) (F2 k) (F3 k) (F4 k) = true := by
  unfold listPaper at h
  rw [Bool.and_eq_true] at h
  have h2 := allB_at h.1 k hk
  unfold okPaper at h2
  rw [Bool.and_eq_true] at h2
  exact h2.1

set_option maxHeartbeats 2000000 in
theorem OkPaper_any (g n : Nat) (F0 : Nat → ByteArray) (F1 : Nat → ByteArray) (F2 : Nat → Int) (F3 : Nat → Int) (F4 : Nat → Int) (w : World) (t1 : TypeId) (hn : n ≤ 1048576) (h1 : w.rowIs g t1 (n * 5) (flat 5 (rowPaper F0 F1 F2 F3 F4))) (hS0 : ∀ i, i < n → (F0 i).size ≤ maxLen) (hS1 : ∀ i, i < n → (F1 i).size ≤ maxLen) :
    Calls Try.prog 52 #[.slice (some ⟨g, 0, none⟩) n n] w fun e w' => e = .returned (.bool (listPaper n F0 F1 F2 F3 F4)) ∧ Below w.heap.size w w' := by
  have hl1 := h1.lt
  have HR1 := Lib.hid (RdPaper.of_row h1)
  have HS0 := Lib.hid hS0
  have HS1 := Lib.hid hS1
  clear h1 hS0 hS1
  go_enter Try.func52, Try.ntmps52
  go_wp2
  go_loopw [3] (fun i wr => ∃ (k : Nat), k ≤ n ∧ i = .int .i64 k ∧ Below w.heap.size w wr ∧ allB k (okPaper F0 F1 F2 F3 F4) = true) (fun i _ => n - (intOf i).toNat)
  case atStart => exact ⟨0, Nat.zero_le _, rfl, Below.refl _ _, rfl⟩
  case round =>
    obtain ⟨k, hk, rfl, hbel, ha⟩ := hrel
    have HA := Lib.hid ha
    clear ha
    by_cases hlt : k < n
    · have hlti : (k : Int) < (n : Int) := by omega
      have hki : (0 : Int) ≤ (k : Int) := by omega
      obtain ⟨c0, c1, c2, c3, c4⟩ := HR1.out k hlt
      have hs0 := HS0.out k hlt
      have hs1 := HS1.out k hlt
      have hbc := bcell hbel
      have hgl : g < wr.heap.size := Nat.lt_of_lt_of_le hl1 hbel.size
      rw [← hbc _ _ hl1] at c0 c1 c2 c3 c4
      simp only [Nat.zero_add] at c0 c1 c2 c3 c4
      by_cases hv : vPaper (F0 k) (F1 k) (F2 k) (F3 k) (F4 k) = true
      · by_cases hk0 : k = 0
        · have HK := Lib.hid (show okPaper F0 F1 F2 F3 F4 k = true by unfold okPaper; rw [hv, hk0]; rfl)
          have hkd : decide (0 < k) = false := by simp; omega
          clear hbc hk0
          go_wp2
          go_quiet ((go_at_call 90; exact Calls.quiet_of (onePaper_any _ _ _ _ _ _ _ _ hs0 hs1 c0 c1 c2 c3 c4)))
          go_wp2
          go_roundw
          case rel => exact ⟨k + 1, by omega, by go_num, below_drewN hbel _, by rw [allB_succ, HA.out, HK.out]; rfl⟩
          case measure => simp [intOf]; omega
        · obtain ⟨j, rfl⟩ : ∃ j, k = j + 1 := ⟨k - 1, by omega⟩
          clear hk0
          obtain ⟨d0, _, _, _, _⟩ := HR1.out j (by omega)
          rw [← hbc _ _ hl1] at d0
          simp only [Nat.zero_add] at d0
          clear hbc
          by_cases hb : Op.bytesLess (F0 j).toList (F0 (j + 1)).toList = true
          · have HK := Lib.hid (show okPaper F0 F1 F2 F3 F4 (j + 1) = true by unfold okPaper; rw [hv]; simpa using hb)
            go_wp2
            go_quiet ((go_at_call 90; exact Calls.quiet_of (onePaper_any _ _ _ _ _ _ _ _ hs0 hs1 c0 c1 c2 c3 c4)))
            go_wp2
            go_roundw
            case rel => exact ⟨j + 1 + 1, by omega, by go_num, below_drewN hbel _, by rw [allB_succ, HA.out, HK.out]; rfl⟩
            case measure => simp [intOf]; omega
          · have hb' : Op.bytesLess (F0 j).toList (F0 (j + 1)).toList = false := by simpa using hb
            clear hb
            have HF := Lib.hid (listPaper_out (n := n) (F0 := F0) (F1 := F1) (F2 := F2) (F3 := F3) (F4 := F4) (j + 1) hlt (by unfold okPaper; rw [hv]; simpa using hb'))
            go_wp2
            go_quiet ((go_at_call 90; exact Calls.quiet_of (onePaper_any _ _ _ _ _ _ _ _ hs0 hs1 c0 c1 c2 c3 c4)))
            go_wp2
            go_ret
            exact ⟨by rw [HF.out]; rfl, below_drewN hbel _⟩
      · have hv' : vPaper (F0 k) (F1 k) (F2 k) (F3 k) (F4 k) = false := by simpa using hv
        clear hv hbc
        have HF := Lib.hid (listPaper_out (n := n) (F0 := F0) (F1 := F1) (F2 := F2) (F3 := F3) (F4 := F4) k hlt (by unfold okPaper; rw [hv']; rfl))
        go_wp2
        go_quiet ((go_at_call 90; exact Calls.quiet_of (onePaper_any _ _ _ _ _ _ _ _ hs0 hs1 c0 c1 c2 c3 c4)))
        go_wp2
        go_ret
        exact ⟨by rw [HF.out]; rfl, below_drewN hbel _⟩
    · obtain rfl : k = n := by omega
      have HF := Lib.hid (listPaper_end HA.out)
      go_wp2
      go_ret
      exact ⟨by rw [HF.out]; rfl, hbel⟩

set_option maxHeartbeats 2000000 in
theorem ValidPaper_any (g n : Nat) (F0 : Nat → ByteArray) (F1 : Nat → ByteArray) (F2 : Nat → Int) (F3 : Nat → Int) (F4 : Nat → Int) (w : World) (t1 : TypeId) (hn : n ≤ 1048576) (h1 : w.rowIs g t1 (n * 5) (flat 5 (rowPaper F0 F1 F2 F3 F4))) (hS0 : ∀ i, i < n → (F0 i).size ≤ maxLen) (hS1 : ∀ i, i < n → (F1 i).size ≤ maxLen) :
    Calls Try.prog 21 #[.slice (some ⟨g, 0, none⟩) n n] w fun e w' => e = .returned (.bool (listPaper n F0 F1 F2 F3 F4)) ∧ Below w.heap.size w w' := by
  have hl1 := h1.lt
  have HR1 := Lib.hid (RdPaper.of_row h1)
  have HS0 := Lib.hid hS0
  have HS1 := Lib.hid hS1
  clear h1 hS0 hS1
  go_enter Try.func21, Try.ntmps21
  go_wp2
  go_loopw [7] (fun i wr => ∃ (k : Nat), k ≤ n ∧ i = .int .i64 k ∧ Below w.heap.size w wr ∧ allB k (okPaper F0 F1 F2 F3 F4) = true) (fun i _ => n - (intOf i).toNat)
  case atStart => exact ⟨0, Nat.zero_le _, rfl, Below.refl _ _, rfl⟩
  case round =>
    obtain ⟨k, hk, rfl, hbel, ha⟩ := hrel
    have HA := Lib.hid ha
    clear ha
    by_cases hlt : k < n
    · have hlti : (k : Int) < (n : Int) := by omega
      have hki : (0 : Int) ≤ (k : Int) := by omega
      obtain ⟨c0, c1, c2, c3, c4⟩ := HR1.out k hlt
      have hs0 := HS0.out k hlt
      have hs1 := HS1.out k hlt
      have hbc := bcell hbel
      have hgl : g < wr.heap.size := Nat.lt_of_lt_of_le hl1 hbel.size
      rw [← hbc _ _ hl1] at c0 c1 c2 c3 c4
      simp only [Nat.zero_add] at c0 c1 c2 c3 c4
      by_cases hv : vPaper (F0 k) (F1 k) (F2 k) (F3 k) (F4 k) = true
      · by_cases hk0 : k = 0
        · have HK := Lib.hid (show okPaper F0 F1 F2 F3 F4 k = true by unfold okPaper; rw [hv, hk0]; rfl)
          have hkd : decide (0 < k) = false := by simp; omega
          clear hbc hk0
          go_wp2
          have e0 := Ext.cell (W := wr.alloc (.cells #[.string (F0 k), .string (F1 k), .int .i64 (F2 k), .int .i64 (F3 k), .int .i64 (F4 k)] 67)) (b := wr.heap.size) (o := 0) (u := .string (F0 k)) (by simp) (by simp)
          have e1 := Ext.cell (W := wr.alloc (.cells #[.string (F0 k), .string (F1 k), .int .i64 (F2 k), .int .i64 (F3 k), .int .i64 (F4 k)] 67)) (b := wr.heap.size) (o := 1) (u := .string (F1 k)) (by simp) (by simp)
          have e2 := Ext.cell (W := wr.alloc (.cells #[.string (F0 k), .string (F1 k), .int .i64 (F2 k), .int .i64 (F3 k), .int .i64 (F4 k)] 67)) (b := wr.heap.size) (o := 2) (u := .int .i64 (F2 k)) (by simp) (by simp)
          have e3 := Ext.cell (W := wr.alloc (.cells #[.string (F0 k), .string (F1 k), .int .i64 (F2 k), .int .i64 (F3 k), .int .i64 (F4 k)] 67)) (b := wr.heap.size) (o := 3) (u := .int .i64 (F3 k)) (by simp) (by simp)
          have e4 := Ext.cell (W := wr.alloc (.cells #[.string (F0 k), .string (F1 k), .int .i64 (F2 k), .int .i64 (F3 k), .int .i64 (F4 k)] 67)) (b := wr.heap.size) (o := 4) (u := .int .i64 (F4 k)) (by simp) (by simp)
          refine wp_region_ext (by kernel_rfl) (by kernel_rfl) ?_
          repeat (go_big_quiet_step ((go_at_call 57; exact ext_one (validPaper_any _ _ _ _ _ _ hs0 hs1))))
          refine wpQuiet_nil ?_
          rintro _ ⟨⟨W1, hW1⟩, rfl⟩
          have hbel2 := below_ext hbel hW1
          clear hW1 e0 e1 e2 e3 e4
          go_wp2
          go_roundw
          case rel => exact ⟨k + 1, by omega, by go_num, hbel2, by rw [allB_succ, HA.out, HK.out]; rfl⟩
          case measure => simp [intOf]; omega
        · obtain ⟨j, rfl⟩ : ∃ j, k = j + 1 := ⟨k - 1, by omega⟩
          clear hk0
          obtain ⟨d0, _, _, _, _⟩ := HR1.out j (by omega)
          rw [← hbc _ _ hl1] at d0
          simp only [Nat.zero_add] at d0
          clear hbc
          by_cases hb : Op.bytesLess (F0 j).toList (F0 (j + 1)).toList = true
          · have HK := Lib.hid (show okPaper F0 F1 F2 F3 F4 (j + 1) = true by unfold okPaper; rw [hv]; simpa using hb)
            go_wp2
            have e0 := Ext.cell (W := wr.alloc (.cells #[.string (F0 (j + 1)), .string (F1 (j + 1)), .int .i64 (F2 (j + 1)), .int .i64 (F3 (j + 1)), .int .i64 (F4 (j + 1))] 67)) (b := wr.heap.size) (o := 0) (u := .string (F0 (j + 1))) (by simp) (by simp)
            have e1 := Ext.cell (W := wr.alloc (.cells #[.string (F0 (j + 1)), .string (F1 (j + 1)), .int .i64 (F2 (j + 1)), .int .i64 (F3 (j + 1)), .int .i64 (F4 (j + 1))] 67)) (b := wr.heap.size) (o := 1) (u := .string (F1 (j + 1))) (by simp) (by simp)
            have e2 := Ext.cell (W := wr.alloc (.cells #[.string (F0 (j + 1)), .string (F1 (j + 1)), .int .i64 (F2 (j + 1)), .int .i64 (F3 (j + 1)), .int .i64 (F4 (j + 1))] 67)) (b := wr.heap.size) (o := 2) (u := .int .i64 (F2 (j + 1))) (by simp) (by simp)
            have e3 := Ext.cell (W := wr.alloc (.cells #[.string (F0 (j + 1)), .string (F1 (j + 1)), .int .i64 (F2 (j + 1)), .int .i64 (F3 (j + 1)), .int .i64 (F4 (j + 1))] 67)) (b := wr.heap.size) (o := 3) (u := .int .i64 (F3 (j + 1))) (by simp) (by simp)
            have e4 := Ext.cell (W := wr.alloc (.cells #[.string (F0 (j + 1)), .string (F1 (j + 1)), .int .i64 (F2 (j + 1)), .int .i64 (F3 (j + 1)), .int .i64 (F4 (j + 1))] 67)) (b := wr.heap.size) (o := 4) (u := .int .i64 (F4 (j + 1))) (by simp) (by simp)
            have e5 := Ext.cell (W := wr.alloc (.cells #[.string (F0 (j + 1)), .string (F1 (j + 1)), .int .i64 (F2 (j + 1)), .int .i64 (F3 (j + 1)), .int .i64 (F4 (j + 1))] 67)) (b := g) (o := j * 5) (u := .string (F0 j)) (by rw [World.cell?_alloc_lt _ _ _ hgl]; exact d0) (by simp; omega)
            refine wp_region_ext (by kernel_rfl) (by kernel_rfl) ?_
            repeat (go_big_quiet_step ((go_at_call 57; exact ext_one (validPaper_any _ _ _ _ _ _ hs0 hs1))))
            refine wpQuiet_nil ?_
            rintro _ ⟨⟨W1, hW1⟩, rfl⟩
            have hbel2 := below_ext hbel hW1
            clear hW1 e0 e1 e2 e3 e4 e5
            go_wp2
            go_roundw
            case rel => exact ⟨j + 1 + 1, by omega, by go_num, hbel2, by rw [allB_succ, HA.out, HK.out]; rfl⟩
            case measure => simp [intOf]; omega
          · have hb' : Op.bytesLess (F0 j).toList (F0 (j + 1)).toList = false := by simpa using hb
            clear hb
            have HF := Lib.hid (listPaper_out (n := n) (F0 := F0) (F1 := F1) (F2 := F2) (F3 := F3) (F4 := F4) (j + 1) hlt (by unfold okPaper; rw [hv]; simpa using hb'))
            go_wp2
            have e0 := Ext.cell (W := wr.alloc (.cells #[.string (F0 (j + 1)), .string (F1 (j + 1)), .int .i64 (F2 (j + 1)), .int .i64 (F3 (j + 1)), .int .i64 (F4 (j + 1))] 67)) (b := wr.heap.size) (o := 0) (u := .string (F0 (j + 1))) (by simp) (by simp)
            have e1 := Ext.cell (W := wr.alloc (.cells #[.string (F0 (j + 1)), .string (F1 (j + 1)), .int .i64 (F2 (j + 1)), .int .i64 (F3 (j + 1)), .int .i64 (F4 (j + 1))] 67)) (b := wr.heap.size) (o := 1) (u := .string (F1 (j + 1))) (by simp) (by simp)
            have e2 := Ext.cell (W := wr.alloc (.cells #[.string (F0 (j + 1)), .string (F1 (j + 1)), .int .i64 (F2 (j + 1)), .int .i64 (F3 (j + 1)), .int .i64 (F4 (j + 1))] 67)) (b := wr.heap.size) (o := 2) (u := .int .i64 (F2 (j + 1))) (by simp) (by simp)
            have e3 := Ext.cell (W := wr.alloc (.cells #[.string (F0 (j + 1)), .string (F1 (j + 1)), .int .i64 (F2 (j + 1)), .int .i64 (F3 (j + 1)), .int .i64 (F4 (j + 1))] 67)) (b := wr.heap.size) (o := 3) (u := .int .i64 (F3 (j + 1))) (by simp) (by simp)
            have e4 := Ext.cell (W := wr.alloc (.cells #[.string (F0 (j + 1)), .string (F1 (j + 1)), .int .i64 (F2 (j + 1)), .int .i64 (F3 (j + 1)), .int .i64 (F4 (j + 1))] 67)) (b := wr.heap.size) (o := 4) (u := .int .i64 (F4 (j + 1))) (by simp) (by simp)
            have e5 := Ext.cell (W := wr.alloc (.cells #[.string (F0 (j + 1)), .string (F1 (j + 1)), .int .i64 (F2 (j + 1)), .int .i64 (F3 (j + 1)), .int .i64 (F4 (j + 1))] 67)) (b := g) (o := j * 5) (u := .string (F0 j)) (by rw [World.cell?_alloc_lt _ _ _ hgl]; exact d0) (by simp; omega)
            refine wp_region_ext (by kernel_rfl) (by kernel_rfl) ?_
            repeat (go_big_quiet_step ((go_at_call 57; exact ext_one (validPaper_any _ _ _ _ _ _ hs0 hs1))))
            refine wpQuiet_nil ?_
            rintro _ ⟨⟨W1, hW1⟩, rfl⟩
            have hbel2 := below_ext hbel hW1
            clear hW1 e0 e1 e2 e3 e4 e5
            go_wp2
            go_ret
            exact ⟨by rw [HF.out]; rfl, hbel2⟩
      · have hv' : vPaper (F0 k) (F1 k) (F2 k) (F3 k) (F4 k) = false := by simpa using hv
        clear hv hbc
        have HF := Lib.hid (listPaper_out (n := n) (F0 := F0) (F1 := F1) (F2 := F2) (F3 := F3) (F4 := F4) k hlt (by unfold okPaper; rw [hv']; rfl))
        go_wp2
        have e0 := Ext.cell (W := wr.alloc (.cells #[.string (F0 k), .string (F1 k), .int .i64 (F2 k), .int .i64 (F3 k), .int .i64 (F4 k)] 67)) (b := wr.heap.size) (o := 0) (u := .string (F0 k)) (by simp) (by simp)
        have e1 := Ext.cell (W := wr.alloc (.cells #[.string (F0 k), .string (F1 k), .int .i64 (F2 k), .int .i64 (F3 k), .int .i64 (F4 k)] 67)) (b := wr.heap.size) (o := 1) (u := .string (F1 k)) (by simp) (by simp)
        have e2 := Ext.cell (W := wr.alloc (.cells #[.string (F0 k), .string (F1 k), .int .i64 (F2 k), .int .i64 (F3 k), .int .i64 (F4 k)] 67)) (b := wr.heap.size) (o := 2) (u := .int .i64 (F2 k)) (by simp) (by simp)
        have e3 := Ext.cell (W := wr.alloc (.cells #[.string (F0 k), .string (F1 k), .int .i64 (F2 k), .int .i64 (F3 k), .int .i64 (F4 k)] 67)) (b := wr.heap.size) (o := 3) (u := .int .i64 (F3 k)) (by simp) (by simp)
        have e4 := Ext.cell (W := wr.alloc (.cells #[.string (F0 k), .string (F1 k), .int .i64 (F2 k), .int .i64 (F3 k), .int .i64 (F4 k)] 67)) (b := wr.heap.size) (o := 4) (u := .int .i64 (F4 k)) (by simp) (by simp)
        refine wp_region_ext (by kernel_rfl) (by kernel_rfl) ?_
        repeat (go_big_quiet_step ((go_at_call 57; exact ext_one (validPaper_any _ _ _ _ _ _ hs0 hs1))))
        refine wpQuiet_nil ?_
        rintro _ ⟨⟨W1, hW1⟩, rfl⟩
        have hbel2 := below_ext hbel hW1
        clear hW1 e0 e1 e2 e3 e4
        go_wp2
        go_ret
        exact ⟨by rw [HF.out]; rfl, hbel2⟩
    · obtain rfl : k = n := by omega
      have HF := Lib.hid (listPaper_end HA.out)
      go_wp2_with (first | (go_at_call 58; refine (few_any _ _ _).mono ?_; rintro e w' ⟨rfl, rfl⟩))
      go_ret
      exact ⟨by rw [HF.out]; rfl, hbel⟩

set_option maxHeartbeats 400000 in
theorem SpecValidPaper_any (g n : Nat) (F0 : Nat → ByteArray) (F1 : Nat → ByteArray) (F2 : Nat → Int) (F3 : Nat → Int) (F4 : Nat → Int) (w : World) (t1 : TypeId) (hn : n ≤ 1048576) (h1 : w.rowIs g t1 (n * 5) (flat 5 (rowPaper F0 F1 F2 F3 F4))) (hS0 : ∀ i, i < n → (F0 i).size ≤ maxLen) (hS1 : ∀ i, i < n → (F1 i).size ≤ maxLen) :
    Calls Try.prog 20 #[.slice (some ⟨g, 0, none⟩) n n] w fun e w' => e = .returned (.bool (listPaper n F0 F1 F2 F3 F4)) ∧ Below w.heap.size w w' := by
  have H1 := Lib.hid h1
  have HN := Lib.hid hn
  have HS0 := Lib.hid hS0
  have HS1 := Lib.hid hS1
  clear h1 hn hS0 hS1
  go_enter Try.func20, Try.ntmps20
  go_wp2_with (go_at_call 52; refine (OkPaper_any g n F0 F1 F2 F3 F4 _ t1 HN.out H1.out HS0.out HS1.out).mono ?_; rintro e w' ⟨rfl, hbel⟩)
  go_ret
  exact ⟨rfl, hbel⟩
end Go.Proofs.Ytkoijgeacekeaaa
