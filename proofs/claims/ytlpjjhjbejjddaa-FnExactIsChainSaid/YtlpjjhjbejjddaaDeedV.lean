/- The contracts of the validity of the type Deed and of its lists, in the program and in the reference: both are one and the same Bool. -/
import Derived.Test.YtlpjjhjbejjddaaDeed
import Derived.Test.YtlpjjhjbejjddaaMore
namespace Go.Proofs.Ytlpjjhjbejjddaa
open Go.RowKit
attribute [local go_sem ↓] Go.wp_at_zero Go.wp_at_succ
/-- A Deed that is valid. -/
def vDeed (x0 : ByteArray) (x1 : ByteArray) (x2 : Int) (x3 : Int) : Bool := nameB x0 && (nameB x1 && (!(x0.toList == x1.toList) && (inB x2 0 2100 && inB x3 0 1000)))

set_option maxHeartbeats 1000000 in
theorem validDeed_any (x0 : ByteArray) (x1 : ByteArray) (x2 : Int) (x3 : Int) (w : World) (hs0 : x0.size ≤ maxLen) (hs1 : x1.size ≤ maxLen) :
    Calls Try.prog 133 #[.agg #[.string x0, .string x1, .int .i64 x2, .int .i64 x3]] w fun e w' => e = .returned (.bool (vDeed x0 x1 x2 x3)) ∧ w.alloc (.cells #[.string x0, .string x1, .int .i64 x2, .int .i64 x3] 104) = w' := by
  go_enter Try.func133, Try.ntmps133
  go_wp2_with (first | (go_at_call 128; refine (IsName_any _ _ (by assumption)).mono ?_; rintro e w' ⟨rfl, rfl⟩) | (go_at_call 120; refine (within_any _ _ _ _).mono ?_; rintro e w' ⟨rfl, rfl⟩) | go_in)
  all_goals (go_ret; exact ⟨by simp [vDeed, *], rfl⟩)

set_option maxHeartbeats 400000 in
theorem l19Year_any (n : Int) (w : World) :
    Calls Try.prog 147 #[.int .i64 n] w fun e w' => e = .returned (.bool (inB n 0 2100)) ∧ w = w' := by
  go_enter Try.func147, Try.ntmps147
  go_wp2_with (go_at_call 124; refine (l00In_any _ _ _ _).mono ?_; rintro e w' ⟨rfl, rfl⟩)
  go_ret
  exact ⟨rfl, rfl⟩

set_option maxHeartbeats 2000000 in
theorem oneDeed_any (b o : Nat) (x0 : ByteArray) (x1 : ByteArray) (x2 : Int) (x3 : Int) (w : World) (hs0 : x0.size ≤ maxLen) (hs1 : x1.size ≤ maxLen) (h0 : w.cell? ⟨b, o, none⟩ = some (.string x0)) (h1 : w.cell? ⟨b, o + 1, none⟩ = some (.string x1)) (h2 : w.cell? ⟨b, o + 2, none⟩ = some (.int .i64 x2)) (h3 : w.cell? ⟨b, o + 3, none⟩ = some (.int .i64 x3)) :
    Calls Try.prog 131 #[.pointer (some ⟨b, o, none⟩)] w fun e w' => e = .returned (.bool (vDeed x0 x1 x2 x3)) ∧ ∃ q, w' = w.drewN q := by
  by_cases e0 : (nameB x0) = true
  case neg =>
    have f0 : (nameB x0) = false := by simpa using e0
    clear e0
    have HF := Lib.hid (show vDeed x0 x1 x2 x3 = false by unfold vDeed; simp only [f0]; simp)
    go_enter Try.func131, Try.ntmps131
    go_wp2
    go_big_quiet (first | (go_at_call 125; exact still_quiet (calls_is (l01Name_any _ _ (by assumption)) (by assumption))) | (go_at_call 124; exact still_quiet (calls_is (l00In_any _ _ _ _) (by assumption))) | (go_at_call 147; exact still_quiet (calls_is (l19Year_any _ _) (by assumption))))
    go_wp2
    go_ret
    exact ⟨by rw [HF.out]; rfl, _, rfl⟩
  by_cases e1 : (nameB x1) = true
  case neg =>
    have f1 : (nameB x1) = false := by simpa using e1
    clear e1
    have HF := Lib.hid (show vDeed x0 x1 x2 x3 = false by unfold vDeed; simp only [e0, f1]; simp)
    go_enter Try.func131, Try.ntmps131
    go_wp2
    go_big_quiet (first | (go_at_call 125; exact still_quiet (calls_is (l01Name_any _ _ (by assumption)) (by assumption))) | (go_at_call 124; exact still_quiet (calls_is (l00In_any _ _ _ _) (by assumption))) | (go_at_call 147; exact still_quiet (calls_is (l19Year_any _ _) (by assumption))))
    go_wp2
    go_ret
    exact ⟨by rw [HF.out]; rfl, _, rfl⟩
  by_cases e2 : (x0.toList == x1.toList) = false
  case neg =>
    have f2 : (x0.toList == x1.toList) = true := by simpa using e2
    clear e2
    have HF := Lib.hid (show vDeed x0 x1 x2 x3 = false by unfold vDeed; simp only [e0, e1, f2]; simp)
    go_enter Try.func131, Try.ntmps131
    go_wp2
    go_big_quiet (first | (go_at_call 125; exact still_quiet (calls_is (l01Name_any _ _ (by assumption)) (by assumption))) | (go_at_call 124; exact still_quiet (calls_is (l00In_any _ _ _ _) (by assumption))) | (go_at_call 147; exact still_quiet (calls_is (l19Year_any _ _) (by assumption))))
    go_wp2
    go_ret
    exact ⟨by rw [HF.out]; rfl, _, rfl⟩
  by_cases e3 : (inB x2 0 2100) = true
  case neg =>
    have f3 : (inB x2 0 2100) = false := by simpa using e3
    clear e3
    have HF := Lib.hid (show vDeed x0 x1 x2 x3 = false by unfold vDeed; simp only [e0, e1, e2, f3]; simp)
    go_enter Try.func131, Try.ntmps131
    go_wp2
    go_big_quiet (first | (go_at_call 125; exact still_quiet (calls_is (l01Name_any _ _ (by assumption)) (by assumption))) | (go_at_call 124; exact still_quiet (calls_is (l00In_any _ _ _ _) (by assumption))) | (go_at_call 147; exact still_quiet (calls_is (l19Year_any _ _) (by assumption))))
    go_wp2
    go_ret
    exact ⟨by rw [HF.out]; rfl, _, rfl⟩
  by_cases e4 : (inB x3 0 1000) = true
  case neg =>
    have f4 : (inB x3 0 1000) = false := by simpa using e4
    clear e4
    have HF := Lib.hid (show vDeed x0 x1 x2 x3 = false by unfold vDeed; simp only [e0, e1, e2, e3, f4]; simp)
    go_enter Try.func131, Try.ntmps131
    go_wp2
    go_big_quiet (first | (go_at_call 125; exact still_quiet (calls_is (l01Name_any _ _ (by assumption)) (by assumption))) | (go_at_call 124; exact still_quiet (calls_is (l00In_any _ _ _ _) (by assumption))) | (go_at_call 147; exact still_quiet (calls_is (l19Year_any _ _) (by assumption))))
    go_wp2
    go_ret
    exact ⟨by rw [HF.out]; rfl, _, rfl⟩
  have HF := Lib.hid (show vDeed x0 x1 x2 x3 = true by unfold vDeed; simp only [e0, e1, e2, e3, e4]; simp)
  go_enter Try.func131, Try.ntmps131
  go_wp2
  go_big_quiet (first | (go_at_call 125; exact still_quiet (calls_is (l01Name_any _ _ (by assumption)) (by assumption))) | (go_at_call 124; exact still_quiet (calls_is (l00In_any _ _ _ _) (by assumption))) | (go_at_call 147; exact still_quiet (calls_is (l19Year_any _ _) (by assumption))))
  go_wp2
  go_ret
  exact ⟨by rw [HF.out]; rfl, _, rfl⟩

/-- The element at place i is valid and stands behind the one before it. -/
def okDeed (F0 : Nat → ByteArray) (F1 : Nat → ByteArray) (F2 : Nat → Int) (F3 : Nat → Int) (i : Nat) : Bool := vDeed (F0 i) (F1 i) (F2 i) (F3 i) && (decide (i = 0) || !decide (F2 i < F2 (i - 1)))

/-- A list of Deeds that is valid. -/
def listDeed (n : Nat) (F0 : Nat → ByteArray) (F1 : Nat → ByteArray) (F2 : Nat → Int) (F3 : Nat → Int) : Bool := allB n (okDeed F0 F1 F2 F3) && decide ((n : Int) ≤ 16)

theorem listDeed_out {n : Nat} {F0 : Nat → ByteArray} {F1 : Nat → ByteArray} {F2 : Nat → Int} {F3 : Nat → Int} (k : Nat) (hk : k < n) (h : okDeed F0 F1 F2 F3 k = false) : listDeed n F0 F1 F2 F3 = false := by
  unfold listDeed; rw [allB_false k hk h]; rfl

theorem listDeed_end {n : Nat} {F0 : Nat → ByteArray} {F1 : Nat → ByteArray} {F2 : Nat → Int} {F3 : Nat → Int} (h : allB n (okDeed F0 F1 F2 F3) = true) : listDeed n F0 F1 F2 F3 = decide ((n : Int) ≤ 16) := by
  unfold listDeed; rw [h]; rfl

theorem listDeed_at {n : Nat} {F0 : Nat → ByteArray} {F1 : Nat → ByteArray} {F2 : Nat → Int} {F3 : Nat → Int} (h : listDeed n F0 F1 F2 F3 = true) (k : Nat) (hk : k < n) : vDeed (F0 k) (F1 k) (F2 k) (F3 k) = true := by
  unfold listDeed at h
  rw [Bool.and_eq_true] at h
  have h2 := allB_at h.1 k hk
  unfold okDeed at h2
  rw [Bool.and_eq_true] at h2
  exact h2.1

set_option maxHeartbeats 2000000 in
theorem OkDeed_any (g n : Nat) (F0 : Nat → ByteArray) (F1 : Nat → ByteArray) (F2 : Nat → Int) (F3 : Nat → Int) (w : World) (t1 : TypeId) (hn : n ≤ 1048576) (h1 : w.rowIs g t1 (n * 4) (flat 4 (rowDeed F0 F1 F2 F3))) (hS0 : ∀ i, i < n → (F0 i).size ≤ maxLen) (hS1 : ∀ i, i < n → (F1 i).size ≤ maxLen) :
    Calls Try.prog 91 #[.slice (some ⟨g, 0, none⟩) n n] w fun e w' => e = .returned (.bool (listDeed n F0 F1 F2 F3)) ∧ Below w.heap.size w w' := by
  have hl1 := h1.lt
  have HR1 := Lib.hid (RdDeed.of_row h1)
  have HS0 := Lib.hid hS0
  have HS1 := Lib.hid hS1
  clear h1 hS0 hS1
  go_enter Try.func91, Try.ntmps91
  go_wp2
  go_loopw [3] (fun i wr => ∃ (k : Nat), k ≤ n ∧ i = .int .i64 k ∧ Below w.heap.size w wr ∧ allB k (okDeed F0 F1 F2 F3) = true) (fun i _ => n - (intOf i).toNat)
  case atStart => exact ⟨0, Nat.zero_le _, rfl, Below.refl _ _, rfl⟩
  case round =>
    obtain ⟨k, hk, rfl, hbel, ha⟩ := hrel
    have HA := Lib.hid ha
    clear ha
    by_cases hlt : k < n
    · have hlti : (k : Int) < (n : Int) := by omega
      have hki : (0 : Int) ≤ (k : Int) := by omega
      obtain ⟨c0, c1, c2, c3⟩ := HR1.out k hlt
      have hs0 := HS0.out k hlt
      have hs1 := HS1.out k hlt
      have hbc := bcell hbel
      have hgl : g < wr.heap.size := Nat.lt_of_lt_of_le hl1 hbel.size
      rw [← hbc _ _ hl1] at c0 c1 c2 c3
      simp only [Nat.zero_add] at c0 c1 c2 c3
      by_cases hv : vDeed (F0 k) (F1 k) (F2 k) (F3 k) = true
      · by_cases hk0 : k = 0
        · have HK := Lib.hid (show okDeed F0 F1 F2 F3 k = true by unfold okDeed; rw [hv, hk0]; rfl)
          have hkd : decide (0 < k) = false := by simp; omega
          clear hbc hk0
          go_wp2
          go_quiet ((go_at_call 131; exact Calls.quiet_of (oneDeed_any _ _ _ _ _ _ _ hs0 hs1 c0 c1 c2 c3)))
          go_wp2
          go_roundw
          case rel => exact ⟨k + 1, by omega, by go_num, below_drewN hbel _, by rw [allB_succ, HA.out, HK.out]; rfl⟩
          case measure => simp [intOf]; omega
        · obtain ⟨j, rfl⟩ : ∃ j, k = j + 1 := ⟨k - 1, by omega⟩
          clear hk0
          obtain ⟨_, _, d0, _⟩ := HR1.out j (by omega)
          rw [← hbc _ _ hl1] at d0
          simp only [Nat.zero_add] at d0
          clear hbc
          by_cases hb : decide (F2 (j + 1) < F2 j) = false
          · have HK := Lib.hid (show okDeed F0 F1 F2 F3 (j + 1) = true by unfold okDeed; rw [hv]; simpa using hb)
            go_wp2
            go_quiet ((go_at_call 131; exact Calls.quiet_of (oneDeed_any _ _ _ _ _ _ _ hs0 hs1 c0 c1 c2 c3)))
            go_wp2
            go_roundw
            case rel => exact ⟨j + 1 + 1, by omega, by go_num, below_drewN hbel _, by rw [allB_succ, HA.out, HK.out]; rfl⟩
            case measure => simp [intOf]; omega
          · have hb' : decide (F2 (j + 1) < F2 j) = true := by simpa using hb
            clear hb
            have HF := Lib.hid (listDeed_out (n := n) (F0 := F0) (F1 := F1) (F2 := F2) (F3 := F3) (j + 1) hlt (by unfold okDeed; rw [hv]; simpa using hb'))
            go_wp2
            go_quiet ((go_at_call 131; exact Calls.quiet_of (oneDeed_any _ _ _ _ _ _ _ hs0 hs1 c0 c1 c2 c3)))
            go_wp2
            go_ret
            exact ⟨by rw [HF.out]; rfl, below_drewN hbel _⟩
      · have hv' : vDeed (F0 k) (F1 k) (F2 k) (F3 k) = false := by simpa using hv
        clear hv hbc
        have HF := Lib.hid (listDeed_out (n := n) (F0 := F0) (F1 := F1) (F2 := F2) (F3 := F3) k hlt (by unfold okDeed; rw [hv']; rfl))
        go_wp2
        go_quiet ((go_at_call 131; exact Calls.quiet_of (oneDeed_any _ _ _ _ _ _ _ hs0 hs1 c0 c1 c2 c3)))
        go_wp2
        go_ret
        exact ⟨by rw [HF.out]; rfl, below_drewN hbel _⟩
    · obtain rfl : k = n := by omega
      have HF := Lib.hid (listDeed_end HA.out)
      go_wp2
      go_ret
      exact ⟨by rw [HF.out]; rfl, hbel⟩

set_option maxHeartbeats 2000000 in
theorem ValidDeed_any (g n : Nat) (F0 : Nat → ByteArray) (F1 : Nat → ByteArray) (F2 : Nat → Int) (F3 : Nat → Int) (w : World) (t1 : TypeId) (hn : n ≤ 1048576) (h1 : w.rowIs g t1 (n * 4) (flat 4 (rowDeed F0 F1 F2 F3))) (hS0 : ∀ i, i < n → (F0 i).size ≤ maxLen) (hS1 : ∀ i, i < n → (F1 i).size ≤ maxLen) :
    Calls Try.prog 94 #[.slice (some ⟨g, 0, none⟩) n n] w fun e w' => e = .returned (.bool (listDeed n F0 F1 F2 F3)) ∧ Below w.heap.size w w' := by
  have hl1 := h1.lt
  have HR1 := Lib.hid (RdDeed.of_row h1)
  have HS0 := Lib.hid hS0
  have HS1 := Lib.hid hS1
  clear h1 hS0 hS1
  go_enter Try.func94, Try.ntmps94
  go_wp2
  go_loopw [7] (fun i wr => ∃ (k : Nat), k ≤ n ∧ i = .int .i64 k ∧ Below w.heap.size w wr ∧ allB k (okDeed F0 F1 F2 F3) = true) (fun i _ => n - (intOf i).toNat)
  case atStart => exact ⟨0, Nat.zero_le _, rfl, Below.refl _ _, rfl⟩
  case round =>
    obtain ⟨k, hk, rfl, hbel, ha⟩ := hrel
    have HA := Lib.hid ha
    clear ha
    by_cases hlt : k < n
    · have hlti : (k : Int) < (n : Int) := by omega
      have hki : (0 : Int) ≤ (k : Int) := by omega
      obtain ⟨c0, c1, c2, c3⟩ := HR1.out k hlt
      have hs0 := HS0.out k hlt
      have hs1 := HS1.out k hlt
      have hbc := bcell hbel
      have hgl : g < wr.heap.size := Nat.lt_of_lt_of_le hl1 hbel.size
      rw [← hbc _ _ hl1] at c0 c1 c2 c3
      simp only [Nat.zero_add] at c0 c1 c2 c3
      by_cases hv : vDeed (F0 k) (F1 k) (F2 k) (F3 k) = true
      · by_cases hk0 : k = 0
        · have HK := Lib.hid (show okDeed F0 F1 F2 F3 k = true by unfold okDeed; rw [hv, hk0]; rfl)
          have hkd : decide (0 < k) = false := by simp; omega
          clear hbc hk0
          go_wp2
          have e0 := Ext.cell (W := wr.alloc (.cells #[.string (F0 k), .string (F1 k), .int .i64 (F2 k), .int .i64 (F3 k)] 104)) (b := wr.heap.size) (o := 0) (u := .string (F0 k)) (by simp) (by simp)
          have e1 := Ext.cell (W := wr.alloc (.cells #[.string (F0 k), .string (F1 k), .int .i64 (F2 k), .int .i64 (F3 k)] 104)) (b := wr.heap.size) (o := 1) (u := .string (F1 k)) (by simp) (by simp)
          have e2 := Ext.cell (W := wr.alloc (.cells #[.string (F0 k), .string (F1 k), .int .i64 (F2 k), .int .i64 (F3 k)] 104)) (b := wr.heap.size) (o := 2) (u := .int .i64 (F2 k)) (by simp) (by simp)
          have e3 := Ext.cell (W := wr.alloc (.cells #[.string (F0 k), .string (F1 k), .int .i64 (F2 k), .int .i64 (F3 k)] 104)) (b := wr.heap.size) (o := 3) (u := .int .i64 (F3 k)) (by simp) (by simp)
          refine wp_region_ext (by kernel_rfl) (by kernel_rfl) ?_
          repeat (go_big_quiet_step ((go_at_call 133; exact ext_one (validDeed_any _ _ _ _ _ hs0 hs1))))
          refine wpQuiet_nil ?_
          rintro _ ⟨⟨W1, hW1⟩, rfl⟩
          have hbel2 := below_ext hbel hW1
          clear hW1 e0 e1 e2 e3
          go_wp2
          go_roundw
          case rel => exact ⟨k + 1, by omega, by go_num, hbel2, by rw [allB_succ, HA.out, HK.out]; rfl⟩
          case measure => simp [intOf]; omega
        · obtain ⟨j, rfl⟩ : ∃ j, k = j + 1 := ⟨k - 1, by omega⟩
          clear hk0
          obtain ⟨_, _, d0, _⟩ := HR1.out j (by omega)
          rw [← hbc _ _ hl1] at d0
          simp only [Nat.zero_add] at d0
          clear hbc
          by_cases hb : decide (F2 (j + 1) < F2 j) = false
          · have HK := Lib.hid (show okDeed F0 F1 F2 F3 (j + 1) = true by unfold okDeed; rw [hv]; simpa using hb)
            go_wp2
            have e0 := Ext.cell (W := wr.alloc (.cells #[.string (F0 (j + 1)), .string (F1 (j + 1)), .int .i64 (F2 (j + 1)), .int .i64 (F3 (j + 1))] 104)) (b := wr.heap.size) (o := 0) (u := .string (F0 (j + 1))) (by simp) (by simp)
            have e1 := Ext.cell (W := wr.alloc (.cells #[.string (F0 (j + 1)), .string (F1 (j + 1)), .int .i64 (F2 (j + 1)), .int .i64 (F3 (j + 1))] 104)) (b := wr.heap.size) (o := 1) (u := .string (F1 (j + 1))) (by simp) (by simp)
            have e2 := Ext.cell (W := wr.alloc (.cells #[.string (F0 (j + 1)), .string (F1 (j + 1)), .int .i64 (F2 (j + 1)), .int .i64 (F3 (j + 1))] 104)) (b := wr.heap.size) (o := 2) (u := .int .i64 (F2 (j + 1))) (by simp) (by simp)
            have e3 := Ext.cell (W := wr.alloc (.cells #[.string (F0 (j + 1)), .string (F1 (j + 1)), .int .i64 (F2 (j + 1)), .int .i64 (F3 (j + 1))] 104)) (b := wr.heap.size) (o := 3) (u := .int .i64 (F3 (j + 1))) (by simp) (by simp)
            have e4 := Ext.cell (W := wr.alloc (.cells #[.string (F0 (j + 1)), .string (F1 (j + 1)), .int .i64 (F2 (j + 1)), .int .i64 (F3 (j + 1))] 104)) (b := g) (o := j * 4 + 2) (u := .int .i64 (F2 j)) (by rw [World.cell?_alloc_lt _ _ _ hgl]; exact d0) (by simp; omega)
            refine wp_region_ext (by kernel_rfl) (by kernel_rfl) ?_
            repeat (go_big_quiet_step ((go_at_call 133; exact ext_one (validDeed_any _ _ _ _ _ hs0 hs1))))
            refine wpQuiet_nil ?_
            rintro _ ⟨⟨W1, hW1⟩, rfl⟩
            have hbel2 := below_ext hbel hW1
            clear hW1 e0 e1 e2 e3 e4
            go_wp2
            go_roundw
            case rel => exact ⟨j + 1 + 1, by omega, by go_num, hbel2, by rw [allB_succ, HA.out, HK.out]; rfl⟩
            case measure => simp [intOf]; omega
          · have hb' : decide (F2 (j + 1) < F2 j) = true := by simpa using hb
            clear hb
            have HF := Lib.hid (listDeed_out (n := n) (F0 := F0) (F1 := F1) (F2 := F2) (F3 := F3) (j + 1) hlt (by unfold okDeed; rw [hv]; simpa using hb'))
            go_wp2
            have e0 := Ext.cell (W := wr.alloc (.cells #[.string (F0 (j + 1)), .string (F1 (j + 1)), .int .i64 (F2 (j + 1)), .int .i64 (F3 (j + 1))] 104)) (b := wr.heap.size) (o := 0) (u := .string (F0 (j + 1))) (by simp) (by simp)
            have e1 := Ext.cell (W := wr.alloc (.cells #[.string (F0 (j + 1)), .string (F1 (j + 1)), .int .i64 (F2 (j + 1)), .int .i64 (F3 (j + 1))] 104)) (b := wr.heap.size) (o := 1) (u := .string (F1 (j + 1))) (by simp) (by simp)
            have e2 := Ext.cell (W := wr.alloc (.cells #[.string (F0 (j + 1)), .string (F1 (j + 1)), .int .i64 (F2 (j + 1)), .int .i64 (F3 (j + 1))] 104)) (b := wr.heap.size) (o := 2) (u := .int .i64 (F2 (j + 1))) (by simp) (by simp)
            have e3 := Ext.cell (W := wr.alloc (.cells #[.string (F0 (j + 1)), .string (F1 (j + 1)), .int .i64 (F2 (j + 1)), .int .i64 (F3 (j + 1))] 104)) (b := wr.heap.size) (o := 3) (u := .int .i64 (F3 (j + 1))) (by simp) (by simp)
            have e4 := Ext.cell (W := wr.alloc (.cells #[.string (F0 (j + 1)), .string (F1 (j + 1)), .int .i64 (F2 (j + 1)), .int .i64 (F3 (j + 1))] 104)) (b := g) (o := j * 4 + 2) (u := .int .i64 (F2 j)) (by rw [World.cell?_alloc_lt _ _ _ hgl]; exact d0) (by simp; omega)
            refine wp_region_ext (by kernel_rfl) (by kernel_rfl) ?_
            repeat (go_big_quiet_step ((go_at_call 133; exact ext_one (validDeed_any _ _ _ _ _ hs0 hs1))))
            refine wpQuiet_nil ?_
            rintro _ ⟨⟨W1, hW1⟩, rfl⟩
            have hbel2 := below_ext hbel hW1
            clear hW1 e0 e1 e2 e3 e4
            go_wp2
            go_ret
            exact ⟨by rw [HF.out]; rfl, hbel2⟩
      · have hv' : vDeed (F0 k) (F1 k) (F2 k) (F3 k) = false := by simpa using hv
        clear hv hbc
        have HF := Lib.hid (listDeed_out (n := n) (F0 := F0) (F1 := F1) (F2 := F2) (F3 := F3) k hlt (by unfold okDeed; rw [hv']; rfl))
        go_wp2
        have e0 := Ext.cell (W := wr.alloc (.cells #[.string (F0 k), .string (F1 k), .int .i64 (F2 k), .int .i64 (F3 k)] 104)) (b := wr.heap.size) (o := 0) (u := .string (F0 k)) (by simp) (by simp)
        have e1 := Ext.cell (W := wr.alloc (.cells #[.string (F0 k), .string (F1 k), .int .i64 (F2 k), .int .i64 (F3 k)] 104)) (b := wr.heap.size) (o := 1) (u := .string (F1 k)) (by simp) (by simp)
        have e2 := Ext.cell (W := wr.alloc (.cells #[.string (F0 k), .string (F1 k), .int .i64 (F2 k), .int .i64 (F3 k)] 104)) (b := wr.heap.size) (o := 2) (u := .int .i64 (F2 k)) (by simp) (by simp)
        have e3 := Ext.cell (W := wr.alloc (.cells #[.string (F0 k), .string (F1 k), .int .i64 (F2 k), .int .i64 (F3 k)] 104)) (b := wr.heap.size) (o := 3) (u := .int .i64 (F3 k)) (by simp) (by simp)
        refine wp_region_ext (by kernel_rfl) (by kernel_rfl) ?_
        repeat (go_big_quiet_step ((go_at_call 133; exact ext_one (validDeed_any _ _ _ _ _ hs0 hs1))))
        refine wpQuiet_nil ?_
        rintro _ ⟨⟨W1, hW1⟩, rfl⟩
        have hbel2 := below_ext hbel hW1
        clear hW1 e0 e1 e2 e3
        go_wp2
        go_ret
        exact ⟨by rw [HF.out]; rfl, hbel2⟩
    · obtain rfl : k = n := by omega
      have HF := Lib.hid (listDeed_end HA.out)
      go_wp2_with (first | (go_at_call 101; refine (few_any _ _ _).mono ?_; rintro e w' ⟨rfl, rfl⟩))
      go_ret
      exact ⟨by rw [HF.out]; rfl, hbel⟩
end Go.Proofs.Ytlpjjhjbejjddaa
