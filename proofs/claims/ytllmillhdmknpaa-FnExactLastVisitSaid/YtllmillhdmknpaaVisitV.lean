/- The contracts of the validity of the type Visit and of its lists, in the program and in the reference: both are one and the same Bool. -/
import Derived.Test.YtllmillhdmknpaaVisit
namespace Go.Proofs.Ytllmillhdmknpaa
open Go.RowKit
attribute [local go_sem ↓] Go.wp_at_zero Go.wp_at_succ
/-- A Visit that is valid. -/
def vVisit (x0 : Int) (x1 : ByteArray) (x2 : Int) (x3 : Int) : Bool := inB x0 0 100000 && (nameB x1 && (inB x2 1 4 && inB x3 0 10000000))

set_option maxHeartbeats 1000000 in
theorem validVisit_any (x0 : Int) (x1 : ByteArray) (x2 : Int) (x3 : Int) (w : World) (hs1 : x1.size ≤ maxLen) :
    Calls Try.prog 153 #[.agg #[.int .i64 x0, .string x1, .int .i64 x2, .int .i64 x3]] w fun e w' => e = .returned (.bool (vVisit x0 x1 x2 x3)) ∧ w.alloc (.cells #[.int .i64 x0, .string x1, .int .i64 x2, .int .i64 x3] 150) = w' := by
  go_enter Try.func153, Try.ntmps153
  go_wp2_with (first | (go_at_call 138; refine (IsName_any _ _ hs1).mono ?_; rintro e w' ⟨rfl, rfl⟩) | (go_at_call 77; refine (within_any _ _ _ _).mono ?_; rintro e w' ⟨rfl, rfl⟩) | go_in)
  all_goals (go_ret; exact ⟨by simp [vVisit, *], rfl⟩)

set_option maxHeartbeats 1000000 in
theorem oneVisit_any (b o : Nat) (x0 : Int) (x1 : ByteArray) (x2 : Int) (x3 : Int) (w : World) (hs1 : x1.size ≤ maxLen) (h0 : w.cell? ⟨b, o, none⟩ = some (.int .i64 x0)) (h1 : w.cell? ⟨b, o + 1, none⟩ = some (.string x1)) (h2 : w.cell? ⟨b, o + 2, none⟩ = some (.int .i64 x2)) (h3 : w.cell? ⟨b, o + 3, none⟩ = some (.int .i64 x3)) :
    Calls Try.prog 152 #[.pointer (some ⟨b, o, none⟩)] w fun e w' => e = .returned (.bool (vVisit x0 x1 x2 x3)) ∧ w = w' := by
  go_enter Try.func152, Try.ntmps152
  go_wp2_with (first | (go_at_call 136; refine (l01Name_any _ _ hs1).mono ?_; rintro e w' ⟨rfl, rfl⟩) | (go_at_call 73; refine (l00In_any _ _ _ _).mono ?_; rintro e w' ⟨rfl, rfl⟩) | go_in)
  all_goals (go_ret; exact ⟨by simp [vVisit, *], rfl⟩)

/-- The element at place i is valid and stands behind the one before it. -/
def okVisit (F0 : Nat → Int) (F1 : Nat → ByteArray) (F2 : Nat → Int) (F3 : Nat → Int) (i : Nat) : Bool := vVisit (F0 i) (F1 i) (F2 i) (F3 i) && (decide (i = 0) || !decide (F0 i < F0 (i - 1)))

/-- A list of Visits that is valid. -/
def listVisit (n : Nat) (F0 : Nat → Int) (F1 : Nat → ByteArray) (F2 : Nat → Int) (F3 : Nat → Int) : Bool := allB n (okVisit F0 F1 F2 F3) && decide ((n : Int) ≤ 32)

theorem listVisit_out {n : Nat} {F0 : Nat → Int} {F1 : Nat → ByteArray} {F2 : Nat → Int} {F3 : Nat → Int} (k : Nat) (hk : k < n) (h : okVisit F0 F1 F2 F3 k = false) : listVisit n F0 F1 F2 F3 = false := by
  unfold listVisit; rw [allB_false k hk h]; rfl

theorem listVisit_end {n : Nat} {F0 : Nat → Int} {F1 : Nat → ByteArray} {F2 : Nat → Int} {F3 : Nat → Int} (h : allB n (okVisit F0 F1 F2 F3) = true) : listVisit n F0 F1 F2 F3 = decide ((n : Int) ≤ 32) := by
  unfold listVisit; rw [h]; rfl

theorem listVisit_at {n : Nat} {F0 : Nat → Int} {F1 : Nat → ByteArray} {F2 : Nat → Int} {F3 : Nat → Int} (h : listVisit n F0 F1 F2 F3 = true) (k : Nat) (hk : k < n) : vVisit (F0 k) (F1 k) (F2 k) (F3 k) = true := by
  unfold listVisit at h
  rw [Bool.and_eq_true] at h
  have h2 := allB_at h.1 k hk
  unfold okVisit at h2
  rw [Bool.and_eq_true] at h2
  exact h2.1

set_option maxHeartbeats 2000000 in
theorem OkVisit_any (g n : Nat) (F0 : Nat → Int) (F1 : Nat → ByteArray) (F2 : Nat → Int) (F3 : Nat → Int) (w : World) (t1 : TypeId) (hn : n ≤ 1048576) (h1 : w.rowIs g t1 (n * 4) (flat 4 (rowVisit F0 F1 F2 F3))) (hS1 : ∀ i, i < n → (F1 i).size ≤ maxLen) :
    Calls Try.prog 113 #[.slice (some ⟨g, 0, none⟩) n n] w fun e w' => e = .returned (.bool (listVisit n F0 F1 F2 F3)) ∧ Below w.heap.size w w' := by
  have hl1 := h1.lt
  have HR1 := Lib.hid (RdVisit.of_row h1)
  have HS1 := Lib.hid hS1
  clear h1 hS1
  go_enter Try.func113, Try.ntmps113
  go_wp2
  go_loopw [3] (fun i wr => ∃ (k : Nat), k ≤ n ∧ i = .int .i64 k ∧ Below w.heap.size w wr ∧ allB k (okVisit F0 F1 F2 F3) = true) (fun i _ => n - (intOf i).toNat)
  case atStart => exact ⟨0, Nat.zero_le _, rfl, Below.refl _ _, rfl⟩
  case round =>
    obtain ⟨k, hk, rfl, hbel, ha⟩ := hrel
    have HA := Lib.hid ha
    clear ha
    by_cases hlt : k < n
    · have hlti : (k : Int) < (n : Int) := by omega
      have hki : (0 : Int) ≤ (k : Int) := by omega
      obtain ⟨c0, c1, c2, c3⟩ := HR1.out k hlt
      have hs1 := HS1.out k hlt
      have hbc := bcell hbel
      have hgl : g < wr.heap.size := Nat.lt_of_lt_of_le hl1 hbel.size
      rw [← hbc _ _ hl1] at c0 c1 c2 c3
      simp only [Nat.zero_add] at c0 c1 c2 c3
      by_cases hv : vVisit (F0 k) (F1 k) (F2 k) (F3 k) = true
      · by_cases hk0 : k = 0
        · have HK := Lib.hid (show okVisit F0 F1 F2 F3 k = true by unfold okVisit; rw [hv, hk0]; rfl)
          have hkd : decide (0 < k) = false := by simp; omega
          clear hbc hk0
          go_wp2
          go_quiet ((go_at_call 152; exact still_quiet (oneVisit_any _ _ _ _ _ _ _ hs1 c0 c1 c2 c3)))
          go_wp2
          go_roundw
          case rel => exact ⟨k + 1, by omega, by go_num, below_drewN hbel _, by rw [allB_succ, HA.out, HK.out]; rfl⟩
          case measure => simp [intOf]; omega
        · obtain ⟨j, rfl⟩ : ∃ j, k = j + 1 := ⟨k - 1, by omega⟩
          clear hk0
          obtain ⟨d0, _, _, _⟩ := HR1.out j (by omega)
          rw [← hbc _ _ hl1] at d0
          simp only [Nat.zero_add] at d0
          clear hbc
          by_cases hb : decide (F0 (j + 1) < F0 j) = false
          · have HK := Lib.hid (show okVisit F0 F1 F2 F3 (j + 1) = true by unfold okVisit; rw [hv]; simpa using hb)
            go_wp2
            go_quiet ((go_at_call 152; exact still_quiet (oneVisit_any _ _ _ _ _ _ _ hs1 c0 c1 c2 c3)))
            go_wp2
            go_roundw
            case rel => exact ⟨j + 1 + 1, by omega, by go_num, below_drewN hbel _, by rw [allB_succ, HA.out, HK.out]; rfl⟩
            case measure => simp [intOf]; omega
          · have hb' : decide (F0 (j + 1) < F0 j) = true := by simpa using hb
            clear hb
            have HF := Lib.hid (listVisit_out (n := n) (F0 := F0) (F1 := F1) (F2 := F2) (F3 := F3) (j + 1) hlt (by unfold okVisit; rw [hv]; simpa using hb'))
            go_wp2
            go_quiet ((go_at_call 152; exact still_quiet (oneVisit_any _ _ _ _ _ _ _ hs1 c0 c1 c2 c3)))
            go_wp2
            go_ret
            exact ⟨by rw [HF.out]; rfl, below_drewN hbel _⟩
      · have hv' : vVisit (F0 k) (F1 k) (F2 k) (F3 k) = false := by simpa using hv
        clear hv hbc
        have HF := Lib.hid (listVisit_out (n := n) (F0 := F0) (F1 := F1) (F2 := F2) (F3 := F3) k hlt (by unfold okVisit; rw [hv']; rfl))
        go_wp2
        go_quiet ((go_at_call 152; exact still_quiet (oneVisit_any _ _ _ _ _ _ _ hs1 c0 c1 c2 c3)))
        go_wp2
        go_ret
        exact ⟨by rw [HF.out]; rfl, below_drewN hbel _⟩
    · obtain rfl : k = n := by omega
      have HF := Lib.hid (listVisit_end HA.out)
      go_wp2
      go_ret
      exact ⟨by rw [HF.out]; rfl, hbel⟩

set_option maxHeartbeats 2000000 in
theorem ValidVisit_any (g n : Nat) (F0 : Nat → Int) (F1 : Nat → ByteArray) (F2 : Nat → Int) (F3 : Nat → Int) (w : World) (t1 : TypeId) (hn : n ≤ 1048576) (h1 : w.rowIs g t1 (n * 4) (flat 4 (rowVisit F0 F1 F2 F3))) (hS1 : ∀ i, i < n → (F1 i).size ≤ maxLen) :
    Calls Try.prog 116 #[.slice (some ⟨g, 0, none⟩) n n] w fun e w' => e = .returned (.bool (listVisit n F0 F1 F2 F3)) ∧ Below w.heap.size w w' := by
  have hl1 := h1.lt
  have HR1 := Lib.hid (RdVisit.of_row h1)
  have HS1 := Lib.hid hS1
  clear h1 hS1
  go_enter Try.func116, Try.ntmps116
  go_wp2
  go_loopw [7] (fun i wr => ∃ (k : Nat), k ≤ n ∧ i = .int .i64 k ∧ Below w.heap.size w wr ∧ allB k (okVisit F0 F1 F2 F3) = true) (fun i _ => n - (intOf i).toNat)
  case atStart => exact ⟨0, Nat.zero_le _, rfl, Below.refl _ _, rfl⟩
  case round =>
    obtain ⟨k, hk, rfl, hbel, ha⟩ := hrel
    have HA := Lib.hid ha
    clear ha
    by_cases hlt : k < n
    · have hlti : (k : Int) < (n : Int) := by omega
      have hki : (0 : Int) ≤ (k : Int) := by omega
      obtain ⟨c0, c1, c2, c3⟩ := HR1.out k hlt
      have hs1 := HS1.out k hlt
      have hbc := bcell hbel
      have hgl : g < wr.heap.size := Nat.lt_of_lt_of_le hl1 hbel.size
      rw [← hbc _ _ hl1] at c0 c1 c2 c3
      simp only [Nat.zero_add] at c0 c1 c2 c3
      by_cases hv : vVisit (F0 k) (F1 k) (F2 k) (F3 k) = true
      · by_cases hk0 : k = 0
        · have HK := Lib.hid (show okVisit F0 F1 F2 F3 k = true by unfold okVisit; rw [hv, hk0]; rfl)
          have hkd : decide (0 < k) = false := by simp; omega
          clear hbc hk0
          go_wp2
          have e0 := Ext.cell (W := wr.alloc (.cells #[.int .i64 (F0 k), .string (F1 k), .int .i64 (F2 k), .int .i64 (F3 k)] 150)) (b := wr.heap.size) (o := 0) (u := .int .i64 (F0 k)) (by simp) (by simp)
          have e1 := Ext.cell (W := wr.alloc (.cells #[.int .i64 (F0 k), .string (F1 k), .int .i64 (F2 k), .int .i64 (F3 k)] 150)) (b := wr.heap.size) (o := 1) (u := .string (F1 k)) (by simp) (by simp)
          have e2 := Ext.cell (W := wr.alloc (.cells #[.int .i64 (F0 k), .string (F1 k), .int .i64 (F2 k), .int .i64 (F3 k)] 150)) (b := wr.heap.size) (o := 2) (u := .int .i64 (F2 k)) (by simp) (by simp)
          have e3 := Ext.cell (W := wr.alloc (.cells #[.int .i64 (F0 k), .string (F1 k), .int .i64 (F2 k), .int .i64 (F3 k)] 150)) (b := wr.heap.size) (o := 3) (u := .int .i64 (F3 k)) (by simp) (by simp)
          refine wp_region_ext (by kernel_rfl) (by kernel_rfl) ?_
          repeat (go_big_quiet_step ((go_at_call 153; exact ext_one (validVisit_any _ _ _ _ _ hs1))))
          refine wpQuiet_nil ?_
          rintro _ ⟨⟨W1, hW1⟩, rfl⟩
          have hbel2 := below_ext hbel hW1
          clear hW1 e0 e1 e2 e3
          go_wp2
          go_roundw
          case rel => exact ⟨k + 1, by omega, by go_num, hbel2, by rw [allB_succ, HA.out, HK.out]; rfl⟩
          case measure => simp [intOf]; omega
        · obtain ⟨j, rfl⟩ : ∃ j, k = j + 1 := ⟨k - 1, by omega⟩
          clear hk0
          obtain ⟨d0, _, _, _⟩ := HR1.out j (by omega)
          rw [← hbc _ _ hl1] at d0
          simp only [Nat.zero_add] at d0
          clear hbc
          by_cases hb : decide (F0 (j + 1) < F0 j) = false
          · have HK := Lib.hid (show okVisit F0 F1 F2 F3 (j + 1) = true by unfold okVisit; rw [hv]; simpa using hb)
            go_wp2
            have e0 := Ext.cell (W := wr.alloc (.cells #[.int .i64 (F0 (j + 1)), .string (F1 (j + 1)), .int .i64 (F2 (j + 1)), .int .i64 (F3 (j + 1))] 150)) (b := wr.heap.size) (o := 0) (u := .int .i64 (F0 (j + 1))) (by simp) (by simp)
            have e1 := Ext.cell (W := wr.alloc (.cells #[.int .i64 (F0 (j + 1)), .string (F1 (j + 1)), .int .i64 (F2 (j + 1)), .int .i64 (F3 (j + 1))] 150)) (b := wr.heap.size) (o := 1) (u := .string (F1 (j + 1))) (by simp) (by simp)
            have e2 := Ext.cell (W := wr.alloc (.cells #[.int .i64 (F0 (j + 1)), .string (F1 (j + 1)), .int .i64 (F2 (j + 1)), .int .i64 (F3 (j + 1))] 150)) (b := wr.heap.size) (o := 2) (u := .int .i64 (F2 (j + 1))) (by simp) (by simp)
            have e3 := Ext.cell (W := wr.alloc (.cells #[.int .i64 (F0 (j + 1)), .string (F1 (j + 1)), .int .i64 (F2 (j + 1)), .int .i64 (F3 (j + 1))] 150)) (b := wr.heap.size) (o := 3) (u := .int .i64 (F3 (j + 1))) (by simp) (by simp)
            have e4 := Ext.cell (W := wr.alloc (.cells #[.int .i64 (F0 (j + 1)), .string (F1 (j + 1)), .int .i64 (F2 (j + 1)), .int .i64 (F3 (j + 1))] 150)) (b := g) (o := j * 4) (u := .int .i64 (F0 j)) (by rw [World.cell?_alloc_lt _ _ _ hgl]; exact d0) (by simp; omega)
            refine wp_region_ext (by kernel_rfl) (by kernel_rfl) ?_
            repeat (go_big_quiet_step ((go_at_call 153; exact ext_one (validVisit_any _ _ _ _ _ hs1))))
            refine wpQuiet_nil ?_
            rintro _ ⟨⟨W1, hW1⟩, rfl⟩
            have hbel2 := below_ext hbel hW1
            clear hW1 e0 e1 e2 e3 e4
            go_wp2
            go_roundw
            case rel => exact ⟨j + 1 + 1, by omega, by go_num, hbel2, by rw [allB_succ, HA.out, HK.out]; rfl⟩
            case measure => simp [intOf]; omega
          · have hb' : decide (F0 (j + 1) < F0 j) = true := by simpa using hb
            clear hb
            have HF := Lib.hid (listVisit_out (n := n) (F0 := F0) (F1 := F1) (F2 := F2) (F3 := F3) (j + 1) hlt (by unfold okVisit; rw [hv]; simpa using hb'))
            go_wp2
            have e0 := Ext.cell (W := wr.alloc (.cells #[.int .i64 (F0 (j + 1)), .string (F1 (j + 1)), .int .i64 (F2 (j + 1)), .int .i64 (F3 (j + 1))] 150)) (b := wr.heap.size) (o := 0) (u := .int .i64 (F0 (j + 1))) (by simp) (by simp)
            have e1 := Ext.cell (W := wr.alloc (.cells #[.int .i64 (F0 (j + 1)), .string (F1 (j + 1)), .int .i64 (F2 (j + 1)), .int .i64 (F3 (j + 1))] 150)) (b := wr.heap.size) (o := 1) (u := .string (F1 (j + 1))) (by simp) (by simp)
            have e2 := Ext.cell (W := wr.alloc (.cells #[.int .i64 (F0 (j + 1)), .string (F1 (j + 1)), .int .i64 (F2 (j + 1)), .int .i64 (F3 (j + 1))] 150)) (b := wr.heap.size) (o := 2) (u := .int .i64 (F2 (j + 1))) (by simp) (by simp)
            have e3 := Ext.cell (W := wr.alloc (.cells #[.int .i64 (F0 (j + 1)), .string (F1 (j + 1)), .int .i64 (F2 (j + 1)), .int .i64 (F3 (j + 1))] 150)) (b := wr.heap.size) (o := 3) (u := .int .i64 (F3 (j + 1))) (by simp) (by simp)
            have e4 := Ext.cell (W := wr.alloc (.cells #[.int .i64 (F0 (j + 1)), .string (F1 (j + 1)), .int .i64 (F2 (j + 1)), .int .i64 (F3 (j + 1))] 150)) (b := g) (o := j * 4) (u := .int .i64 (F0 j)) (by rw [World.cell?_alloc_lt _ _ _ hgl]; exact d0) (by simp; omega)
            refine wp_region_ext (by kernel_rfl) (by kernel_rfl) ?_
            repeat (go_big_quiet_step ((go_at_call 153; exact ext_one (validVisit_any _ _ _ _ _ hs1))))
            refine wpQuiet_nil ?_
            rintro _ ⟨⟨W1, hW1⟩, rfl⟩
            have hbel2 := below_ext hbel hW1
            clear hW1 e0 e1 e2 e3 e4
            go_wp2
            go_ret
            exact ⟨by rw [HF.out]; rfl, hbel2⟩
      · have hv' : vVisit (F0 k) (F1 k) (F2 k) (F3 k) = false := by simpa using hv
        clear hv hbc
        have HF := Lib.hid (listVisit_out (n := n) (F0 := F0) (F1 := F1) (F2 := F2) (F3 := F3) k hlt (by unfold okVisit; rw [hv']; rfl))
        go_wp2
        have e0 := Ext.cell (W := wr.alloc (.cells #[.int .i64 (F0 k), .string (F1 k), .int .i64 (F2 k), .int .i64 (F3 k)] 150)) (b := wr.heap.size) (o := 0) (u := .int .i64 (F0 k)) (by simp) (by simp)
        have e1 := Ext.cell (W := wr.alloc (.cells #[.int .i64 (F0 k), .string (F1 k), .int .i64 (F2 k), .int .i64 (F3 k)] 150)) (b := wr.heap.size) (o := 1) (u := .string (F1 k)) (by simp) (by simp)
        have e2 := Ext.cell (W := wr.alloc (.cells #[.int .i64 (F0 k), .string (F1 k), .int .i64 (F2 k), .int .i64 (F3 k)] 150)) (b := wr.heap.size) (o := 2) (u := .int .i64 (F2 k)) (by simp) (by simp)
        have e3 := Ext.cell (W := wr.alloc (.cells #[.int .i64 (F0 k), .string (F1 k), .int .i64 (F2 k), .int .i64 (F3 k)] 150)) (b := wr.heap.size) (o := 3) (u := .int .i64 (F3 k)) (by simp) (by simp)
        refine wp_region_ext (by kernel_rfl) (by kernel_rfl) ?_
        repeat (go_big_quiet_step ((go_at_call 153; exact ext_one (validVisit_any _ _ _ _ _ hs1))))
        refine wpQuiet_nil ?_
        rintro _ ⟨⟨W1, hW1⟩, rfl⟩
        have hbel2 := below_ext hbel hW1
        clear hW1 e0 e1 e2 e3
        go_wp2
        go_ret
        exact ⟨by rw [HF.out]; rfl, hbel2⟩
    · obtain rfl : k = n := by omega
      have HF := Lib.hid (listVisit_end HA.out)
      go_wp2_with (first | (go_at_call 98; refine (few_any _ _ _).mono ?_; rintro e w' ⟨rfl, rfl⟩))
      go_ret
      exact ⟨by rw [HF.out]; rfl, hbel⟩
end Go.Proofs.Ytllmillhdmknpaa
