/- The contracts of the validity of the type Mode and of its lists, in the program and in the reference: both are one and the same Bool. -/
import Derived.Test.YtllmillhdmknpaaMode
namespace Go.Proofs.Ytllmillhdmknpaa
open Go.RowKit
attribute [local go_sem ↓] Go.wp_at_zero Go.wp_at_succ
/-- A Mode that is valid. -/
def vMode (x0 : ByteArray) (x1 : Int) (x2 : Int) : Bool := nameB x0 && (inB x1 1000 100000 && inB x2 1 500)

set_option maxHeartbeats 1000000 in
theorem validMode_any (x0 : ByteArray) (x1 : Int) (x2 : Int) (w : World) (hs0 : x0.size ≤ maxLen) :
    Calls Try.prog 164 #[.agg #[.string x0, .int .i64 x1, .int .i64 x2]] w fun e w' => e = .returned (.bool (vMode x0 x1 x2)) ∧ w.alloc (.cells #[.string x0, .int .i64 x1, .int .i64 x2] 164) = w' := by
  go_enter Try.func164, Try.ntmps164
  go_wp2_with (first | (go_at_call 138; refine (IsName_any _ _ hs0).mono ?_; rintro e w' ⟨rfl, rfl⟩) | (go_at_call 77; refine (within_any _ _ _ _).mono ?_; rintro e w' ⟨rfl, rfl⟩) | go_in)
  all_goals (go_ret; exact ⟨by simp [vMode, *], rfl⟩)

set_option maxHeartbeats 1000000 in
theorem oneMode_any (b o : Nat) (x0 : ByteArray) (x1 : Int) (x2 : Int) (w : World) (hs0 : x0.size ≤ maxLen) (h0 : w.cell? ⟨b, o, none⟩ = some (.string x0)) (h1 : w.cell? ⟨b, o + 1, none⟩ = some (.int .i64 x1)) (h2 : w.cell? ⟨b, o + 2, none⟩ = some (.int .i64 x2)) :
    Calls Try.prog 163 #[.pointer (some ⟨b, o, none⟩)] w fun e w' => e = .returned (.bool (vMode x0 x1 x2)) ∧ w = w' := by
  go_enter Try.func163, Try.ntmps163
  go_wp2_with (first | (go_at_call 136; refine (l01Name_any _ _ hs0).mono ?_; rintro e w' ⟨rfl, rfl⟩) | (go_at_call 73; refine (l00In_any _ _ _ _).mono ?_; rintro e w' ⟨rfl, rfl⟩) | go_in)
  all_goals (go_ret; exact ⟨by simp [vMode, *], rfl⟩)

/-- The element at place i is valid and stands behind the one before it. -/
def okMode (F0 : Nat → ByteArray) (F1 : Nat → Int) (F2 : Nat → Int) (i : Nat) : Bool := vMode (F0 i) (F1 i) (F2 i) && (decide (i = 0) || Op.bytesLess (F0 (i - 1)).toList (F0 i).toList)

/-- A list of Modes that is valid. -/
def listMode (n : Nat) (F0 : Nat → ByteArray) (F1 : Nat → Int) (F2 : Nat → Int) : Bool := allB n (okMode F0 F1 F2) && decide ((n : Int) ≤ 10)

theorem listMode_out {n : Nat} {F0 : Nat → ByteArray} {F1 : Nat → Int} {F2 : Nat → Int} (k : Nat) (hk : k < n) (h : okMode F0 F1 F2 k = false) : listMode n F0 F1 F2 = false := by
  unfold listMode; rw [allB_false k hk h]; rfl

theorem listMode_end {n : Nat} {F0 : Nat → ByteArray} {F1 : Nat → Int} {F2 : Nat → Int} (h : allB n (okMode F0 F1 F2) = true) : listMode n F0 F1 F2 = decide ((n : Int) ≤ 10) := by
  unfold listMode; rw [h]; rfl

theorem listMode_at {n : Nat} {F0 : Nat → ByteArray} {F1 : Nat → Int} {F2 : Nat → Int} (h : listMode n F0 F1 F2 = true) (k : Nat) (hk : k < n) : vMode (F0 k) (F1 k) (F2 k) = true := by
  unfold listMode at h
  rw [Bool.and_eq_true] at h
  have h2 := allB_at h.1 k hk
  unfold okMode at h2
  rw [Bool.and_eq_true] at h2
  exact h2.1

set_option maxHeartbeats 2000000 in
theorem OkMode_any (g n : Nat) (F0 : Nat → ByteArray) (F1 : Nat → Int) (F2 : Nat → Int) (w : World) (t1 : TypeId) (hn : n ≤ 1048576) (h1 : w.rowIs g t1 (n * 3) (flat 3 (rowMode F0 F1 F2))) (hS0 : ∀ i, i < n → (F0 i).size ≤ maxLen) :
    Calls Try.prog 127 #[.slice (some ⟨g, 0, none⟩) n n] w fun e w' => e = .returned (.bool (listMode n F0 F1 F2)) ∧ Below w.heap.size w w' := by
  have hl1 := h1.lt
  have HR1 := Lib.hid (RdMode.of_row h1)
  have HS0 := Lib.hid hS0
  clear h1 hS0
  go_enter Try.func127, Try.ntmps127
  go_wp2
  go_loopw [3] (fun i wr => ∃ (k : Nat), k ≤ n ∧ i = .int .i64 k ∧ Below w.heap.size w wr ∧ allB k (okMode F0 F1 F2) = true) (fun i _ => n - (intOf i).toNat)
  case atStart => exact ⟨0, Nat.zero_le _, rfl, Below.refl _ _, rfl⟩
  case round =>
    obtain ⟨k, hk, rfl, hbel, ha⟩ := hrel
    have HA := Lib.hid ha
    clear ha
    by_cases hlt : k < n
    · have hlti : (k : Int) < (n : Int) := by omega
      have hki : (0 : Int) ≤ (k : Int) := by omega
      obtain ⟨c0, c1, c2⟩ := HR1.out k hlt
      have hs0 := HS0.out k hlt
      have hbc := bcell hbel
      have hgl : g < wr.heap.size := Nat.lt_of_lt_of_le hl1 hbel.size
      rw [← hbc _ _ hl1] at c0 c1 c2
      simp only [Nat.zero_add] at c0 c1 c2
      by_cases hv : vMode (F0 k) (F1 k) (F2 k) = true
      · by_cases hk0 : k = 0
        · have HK := Lib.hid (show okMode F0 F1 F2 k = true by unfold okMode; rw [hv, hk0]; rfl)
          have hkd : decide (0 < k) = false := by simp; omega
          clear hbc hk0
          go_wp2
          go_quiet ((go_at_call 163; exact still_quiet (oneMode_any _ _ _ _ _ _ hs0 c0 c1 c2)))
          go_wp2
          go_roundw
          case rel => exact ⟨k + 1, by omega, by go_num, below_drewN hbel _, by rw [allB_succ, HA.out, HK.out]; rfl⟩
          case measure => simp [intOf]; omega
        · obtain ⟨j, rfl⟩ : ∃ j, k = j + 1 := ⟨k - 1, by omega⟩
          clear hk0
          obtain ⟨d0, _, _⟩ := HR1.out j (by omega)
          rw [← hbc _ _ hl1] at d0
          simp only [Nat.zero_add] at d0
          clear hbc
          by_cases hb : Op.bytesLess (F0 j).toList (F0 (j + 1)).toList = true
          · have HK := Lib.hid (show okMode F0 F1 F2 (j + 1) = true by unfold okMode; rw [hv]; simpa using hb)
            go_wp2
            go_quiet ((go_at_call 163; exact still_quiet (oneMode_any _ _ _ _ _ _ hs0 c0 c1 c2)))
            go_wp2
            go_roundw
            case rel => exact ⟨j + 1 + 1, by omega, by go_num, below_drewN hbel _, by rw [allB_succ, HA.out, HK.out]; rfl⟩
            case measure => simp [intOf]; omega
          · have hb' : Op.bytesLess (F0 j).toList (F0 (j + 1)).toList = false := by simpa using hb
            clear hb
            have HF := Lib.hid (listMode_out (n := n) (F0 := F0) (F1 := F1) (F2 := F2) (j + 1) hlt (by unfold okMode; rw [hv]; simpa using hb'))
            go_wp2
            go_quiet ((go_at_call 163; exact still_quiet (oneMode_any _ _ _ _ _ _ hs0 c0 c1 c2)))
            go_wp2
            go_ret
            exact ⟨by rw [HF.out]; rfl, below_drewN hbel _⟩
      · have hv' : vMode (F0 k) (F1 k) (F2 k) = false := by simpa using hv
        clear hv hbc
        have HF := Lib.hid (listMode_out (n := n) (F0 := F0) (F1 := F1) (F2 := F2) k hlt (by unfold okMode; rw [hv']; rfl))
        go_wp2
        go_quiet ((go_at_call 163; exact still_quiet (oneMode_any _ _ _ _ _ _ hs0 c0 c1 c2)))
        go_wp2
        go_ret
        exact ⟨by rw [HF.out]; rfl, below_drewN hbel _⟩
    · obtain rfl : k = n := by omega
      have HF := Lib.hid (listMode_end HA.out)
      go_wp2
      go_ret
      exact ⟨by rw [HF.out]; rfl, hbel⟩

set_option maxHeartbeats 2000000 in
theorem ValidMode_any (g n : Nat) (F0 : Nat → ByteArray) (F1 : Nat → Int) (F2 : Nat → Int) (w : World) (t1 : TypeId) (hn : n ≤ 1048576) (h1 : w.rowIs g t1 (n * 3) (flat 3 (rowMode F0 F1 F2))) (hS0 : ∀ i, i < n → (F0 i).size ≤ maxLen) :
    Calls Try.prog 131 #[.slice (some ⟨g, 0, none⟩) n n] w fun e w' => e = .returned (.bool (listMode n F0 F1 F2)) ∧ Below w.heap.size w w' := by
  have hl1 := h1.lt
  have HR1 := Lib.hid (RdMode.of_row h1)
  have HS0 := Lib.hid hS0
  clear h1 hS0
  go_enter Try.func131, Try.ntmps131
  go_wp2
  go_loopw [7] (fun i wr => ∃ (k : Nat), k ≤ n ∧ i = .int .i64 k ∧ Below w.heap.size w wr ∧ allB k (okMode F0 F1 F2) = true) (fun i _ => n - (intOf i).toNat)
  case atStart => exact ⟨0, Nat.zero_le _, rfl, Below.refl _ _, rfl⟩
  case round =>
    obtain ⟨k, hk, rfl, hbel, ha⟩ := hrel
    have HA := Lib.hid ha
    clear ha
    by_cases hlt : k < n
    · have hlti : (k : Int) < (n : Int) := by omega
      have hki : (0 : Int) ≤ (k : Int) := by omega
      obtain ⟨c0, c1, c2⟩ := HR1.out k hlt
      have hs0 := HS0.out k hlt
      have hbc := bcell hbel
      have hgl : g < wr.heap.size := Nat.lt_of_lt_of_le hl1 hbel.size
      rw [← hbc _ _ hl1] at c0 c1 c2
      simp only [Nat.zero_add] at c0 c1 c2
      by_cases hv : vMode (F0 k) (F1 k) (F2 k) = true
      · by_cases hk0 : k = 0
        · have HK := Lib.hid (show okMode F0 F1 F2 k = true by unfold okMode; rw [hv, hk0]; rfl)
          have hkd : decide (0 < k) = false := by simp; omega
          clear hbc hk0
          go_wp2
          have e0 := Ext.cell (W := wr.alloc (.cells #[.string (F0 k), .int .i64 (F1 k), .int .i64 (F2 k)] 164)) (b := wr.heap.size) (o := 0) (u := .string (F0 k)) (by simp) (by simp)
          have e1 := Ext.cell (W := wr.alloc (.cells #[.string (F0 k), .int .i64 (F1 k), .int .i64 (F2 k)] 164)) (b := wr.heap.size) (o := 1) (u := .int .i64 (F1 k)) (by simp) (by simp)
          have e2 := Ext.cell (W := wr.alloc (.cells #[.string (F0 k), .int .i64 (F1 k), .int .i64 (F2 k)] 164)) (b := wr.heap.size) (o := 2) (u := .int .i64 (F2 k)) (by simp) (by simp)
          refine wp_region_ext (by kernel_rfl) (by kernel_rfl) ?_
          repeat (go_big_quiet_step ((go_at_call 164; exact ext_one (validMode_any _ _ _ _ hs0))))
          refine wpQuiet_nil ?_
          rintro _ ⟨⟨W1, hW1⟩, rfl⟩
          have hbel2 := below_ext hbel hW1
          clear hW1 e0 e1 e2
          go_wp2
          go_roundw
          case rel => exact ⟨k + 1, by omega, by go_num, hbel2, by rw [allB_succ, HA.out, HK.out]; rfl⟩
          case measure => simp [intOf]; omega
        · obtain ⟨j, rfl⟩ : ∃ j, k = j + 1 := ⟨k - 1, by omega⟩
          clear hk0
          obtain ⟨d0, _, _⟩ := HR1.out j (by omega)
          rw [← hbc _ _ hl1] at d0
          simp only [Nat.zero_add] at d0
          clear hbc
          by_cases hb : Op.bytesLess (F0 j).toList (F0 (j + 1)).toList = true
          · have HK := Lib.hid (show okMode F0 F1 F2 (j + 1) = true by unfold okMode; rw [hv]; simpa using hb)
            go_wp2
            have e0 := Ext.cell (W := wr.alloc (.cells #[.string (F0 (j + 1)), .int .i64 (F1 (j + 1)), .int .i64 (F2 (j + 1))] 164)) (b := wr.heap.size) (o := 0) (u := .string (F0 (j + 1))) (by simp) (by simp)
            have e1 := Ext.cell (W := wr.alloc (.cells #[.string (F0 (j + 1)), .int .i64 (F1 (j + 1)), .int .i64 (F2 (j + 1))] 164)) (b := wr.heap.size) (o := 1) (u := .int .i64 (F1 (j + 1))) (by simp) (by simp)
            have e2 := Ext.cell (W := wr.alloc (.cells #[.string (F0 (j + 1)), .int .i64 (F1 (j + 1)), .int .i64 (F2 (j + 1))] 164)) (b := wr.heap.size) (o := 2) (u := .int .i64 (F2 (j + 1))) (by simp) (by simp)
            have e3 := Ext.cell (W := wr.alloc (.cells #[.string (F0 (j + 1)), .int .i64 (F1 (j + 1)), .int .i64 (F2 (j + 1))] 164)) (b := g) (o := j * 3) (u := .string (F0 j)) (by rw [World.cell?_alloc_lt _ _ _ hgl]; exact d0) (by simp; omega)
            refine wp_region_ext (by kernel_rfl) (by kernel_rfl) ?_
            repeat (go_big_quiet_step ((go_at_call 164; exact ext_one (validMode_any _ _ _ _ hs0))))
            refine wpQuiet_nil ?_
            rintro _ ⟨⟨W1, hW1⟩, rfl⟩
            have hbel2 := below_ext hbel hW1
            clear hW1 e0 e1 e2 e3
            go_wp2
            go_roundw
            case rel => exact ⟨j + 1 + 1, by omega, by go_num, hbel2, by rw [allB_succ, HA.out, HK.out]; rfl⟩
            case measure => simp [intOf]; omega
          · have hb' : Op.bytesLess (F0 j).toList (F0 (j + 1)).toList = false := by simpa using hb
            clear hb
            have HF := Lib.hid (listMode_out (n := n) (F0 := F0) (F1 := F1) (F2 := F2) (j + 1) hlt (by unfold okMode; rw [hv]; simpa using hb'))
            go_wp2
            have e0 := Ext.cell (W := wr.alloc (.cells #[.string (F0 (j + 1)), .int .i64 (F1 (j + 1)), .int .i64 (F2 (j + 1))] 164)) (b := wr.heap.size) (o := 0) (u := .string (F0 (j + 1))) (by simp) (by simp)
            have e1 := Ext.cell (W := wr.alloc (.cells #[.string (F0 (j + 1)), .int .i64 (F1 (j + 1)), .int .i64 (F2 (j + 1))] 164)) (b := wr.heap.size) (o := 1) (u := .int .i64 (F1 (j + 1))) (by simp) (by simp)
            have e2 := Ext.cell (W := wr.alloc (.cells #[.string (F0 (j + 1)), .int .i64 (F1 (j + 1)), .int .i64 (F2 (j + 1))] 164)) (b := wr.heap.size) (o := 2) (u := .int .i64 (F2 (j + 1))) (by simp) (by simp)
            have e3 := Ext.cell (W := wr.alloc (.cells #[.string (F0 (j + 1)), .int .i64 (F1 (j + 1)), .int .i64 (F2 (j + 1))] 164)) (b := g) (o := j * 3) (u := .string (F0 j)) (by rw [World.cell?_alloc_lt _ _ _ hgl]; exact d0) (by simp; omega)
            refine wp_region_ext (by kernel_rfl) (by kernel_rfl) ?_
            repeat (go_big_quiet_step ((go_at_call 164; exact ext_one (validMode_any _ _ _ _ hs0))))
            refine wpQuiet_nil ?_
            rintro _ ⟨⟨W1, hW1⟩, rfl⟩
            have hbel2 := below_ext hbel hW1
            clear hW1 e0 e1 e2 e3
            go_wp2
            go_ret
            exact ⟨by rw [HF.out]; rfl, hbel2⟩
      · have hv' : vMode (F0 k) (F1 k) (F2 k) = false := by simpa using hv
        clear hv hbc
        have HF := Lib.hid (listMode_out (n := n) (F0 := F0) (F1 := F1) (F2 := F2) k hlt (by unfold okMode; rw [hv']; rfl))
        go_wp2
        have e0 := Ext.cell (W := wr.alloc (.cells #[.string (F0 k), .int .i64 (F1 k), .int .i64 (F2 k)] 164)) (b := wr.heap.size) (o := 0) (u := .string (F0 k)) (by simp) (by simp)
        have e1 := Ext.cell (W := wr.alloc (.cells #[.string (F0 k), .int .i64 (F1 k), .int .i64 (F2 k)] 164)) (b := wr.heap.size) (o := 1) (u := .int .i64 (F1 k)) (by simp) (by simp)
        have e2 := Ext.cell (W := wr.alloc (.cells #[.string (F0 k), .int .i64 (F1 k), .int .i64 (F2 k)] 164)) (b := wr.heap.size) (o := 2) (u := .int .i64 (F2 k)) (by simp) (by simp)
        refine wp_region_ext (by kernel_rfl) (by kernel_rfl) ?_
        repeat (go_big_quiet_step ((go_at_call 164; exact ext_one (validMode_any _ _ _ _ hs0))))
        refine wpQuiet_nil ?_
        rintro _ ⟨⟨W1, hW1⟩, rfl⟩
        have hbel2 := below_ext hbel hW1
        clear hW1 e0 e1 e2
        go_wp2
        go_ret
        exact ⟨by rw [HF.out]; rfl, hbel2⟩
    · obtain rfl : k = n := by omega
      have HF := Lib.hid (listMode_end HA.out)
      go_wp2_with (first | (go_at_call 98; refine (few_any _ _ _).mono ?_; rintro e w' ⟨rfl, rfl⟩))
      go_ret
      exact ⟨by rw [HF.out]; rfl, hbel⟩
end Go.Proofs.Ytllmillhdmknpaa
