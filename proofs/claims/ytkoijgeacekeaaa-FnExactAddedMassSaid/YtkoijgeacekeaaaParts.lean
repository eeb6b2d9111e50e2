/- The contracts of the functions about bows. -/
import Derived.Test.YtkoijgeacekeaaaPartV
import Derived.Test.YtkoijgeacekeaaaSums
import Derived.Test.YtkoijgeacekeaaaMore
import Derived.Test.YtkoijgeacekeaaaDiv
namespace Go.Proofs.Ytkoijgeacekeaaa
open Go.RowKit
attribute [local go_sem ↓] Go.wp_at_zero Go.wp_at_succ
set_option linter.unusedVariables false

theorem listPart_len {n : Nat} {F0 : Nat → ByteArray} {F1 : Nat → Int} {F2 : Nat → Int} (h : listPart n F0 F1 F2 = true) : 1 ≤ n ∧ n ≤ 12 := by
  unfold listPart at h
  rw [Bool.and_eq_true] at h
  have := inB_true h.2
  omega

theorem vPart_bd {x0 : ByteArray} {x1 x2 : Int} (h : vPart x0 x1 x2 = true) : (0 ≤ x1 ∧ x1 ≤ 8000) ∧ (1 ≤ x2 ∧ x2 ≤ 100000) := by
  unfold vPart at h
  rw [Bool.and_eq_true, Bool.and_eq_true] at h
  exact ⟨inB_true h.2.1, inB_true h.2.2⟩

/-- What the function hands back. -/
def heavyRes (n : Nat) (F0 : Nat → ByteArray) (F1 : Nat → Int) (F2 : Nat → Int)  : Int × Int := (if listPart n F0 F1 F2 = true then (((bestTo (fun k => F2 k) n : Nat) : Int), 0) else (0, 1))

set_option maxHeartbeats 2000000 in
theorem specHeaviestPart_any (g n : Nat) (F0 : Nat → ByteArray) (F1 : Nat → Int) (F2 : Nat → Int)  (v1 : Int) (v2 : Int) (w : World) (t1 : TypeId) (hn : n ≤ 1048576) (h1 : w.rowIs g t1 (n * 3) (flat 3 (rowPart F0 F1 F2))) (hS0 : ∀ i, i < n → (F0 i).size ≤ maxLen)  (hv : heavyRes n F0 F1 F2  = (v1, v2)) :
    Calls Try.prog 27 #[.slice (some ⟨g, 0, none⟩) n n] w fun e w' => e = .returned (.tuple #[.int .i64 v1, .int .i64 v2]) ∧ Below w.heap.size w w' := by
  have hl1 := h1.lt
  have HR1 := Lib.hid (RdPart.of_row h1)
  have H1 := Lib.hid h1
  have HS0 := Lib.hid hS0
  clear h1 hS0
  by_cases e0 : listPart n F0 F1 F2 = true
  case neg =>
    obtain ⟨rfl, rfl⟩ : v1 = 0 ∧ v2 = 1 := by unfold heavyRes at hv; rw [if_neg e0] at hv; simpa [eq_comm] using hv
    have e0n : (listPart n F0 F1 F2) = false := by simpa using e0
    clear hv e0
    go_enter Try.func27, Try.ntmps27
    go_wp2_with fail
    refine (OkPart_any _ _ F0 F1 F2 _ _ hn H1.out HS0.out).mono ?_
    rintro e w1 ⟨rfl, hb1⟩
    go_wp2_with (first | (go_at_call 94; refine (l00In_any _ _ _ _).mono ?_; rintro e w' ⟨rfl, rfl⟩) | go_in)
    go_ret2
    exact ⟨rfl, hb1⟩
  replace hv : (((bestTo (fun k => F2 k) n : Nat) : Int), 0) = (v1, v2) := by unfold heavyRes at hv; rw [if_pos e0] at hv; exact hv
  have HV := Lib.hid hv
  clear hv
  go_enter Try.func27, Try.ntmps27
  go_wp2_with fail
  refine (OkPart_any _ _ F0 F1 F2 _ _ hn H1.out HS0.out).mono ?_
  rintro e w1 ⟨rfl, hb1⟩
  have H2 := Lib.hid (row_below H1.out hb1 H1.out.lt)
  have hn1 := listPart_len e0
  go_wp2
  go_loopw [4, 5] (fun v i wr => ∃ (k b : Nat), k ≤ n ∧ b < n ∧ i = .int .i64 k ∧ v = .int .i64 b ∧ Hid (b = bestTo (fun k => F2 k) k) ∧ Below w.heap.size w wr) (fun _ i _ => n - (intOf i).toNat)
  case atStart => exact ⟨1, 0, by omega, by omega, rfl, rfl, (bestTo_one _).symm, hb1⟩
  case round =>
    obtain ⟨k, b, hk, hbn, rfl, rfl, hbest, hbel⟩ := hrel
    by_cases hlt : k < n
    · have hlti : (k : Int) < (n : Int) := by omega
      have hki : (0 : Int) ≤ (k : Int) := by omega
      have hbi : (b : Int) < (n : Int) := by omega
      have hb0 : (0 : Int) ≤ (b : Int) := by omega
      obtain ⟨d0, d1, d2⟩ := HR1.out b hbn
      rw [← bcell hbel _ _ hl1] at d0 d1 d2
      simp only [Nat.zero_add] at d0 d1 d2
      have hgl : g < wr.heap.size := Nat.lt_of_lt_of_le hl1 hbel.size
      obtain ⟨c0, c1, c2⟩ := HR1.out k hlt
      have hbc := bcell hbel
      rw [← hbc _ _ hl1] at c0 c1 c2
      simp only [Nat.zero_add] at c0 c1 c2
      clear hbc
      by_cases hc : F2 b < F2 k
      · have HB := Lib.hid (show Hid (k = bestTo (fun k => F2 k) (k + 1)) by have h := hbest.out; show _ = _; rw [bestTo_yes (by rw [← h]; exact hc)])
        clear hbest
        go_wp2
        go_big_quiet (fail)
        go_wp2
        go_roundw
        case rel => first | exact ⟨k + 1, k, by omega, by omega, by go_num, rfl, HB.out, below_drewN (hbel) _⟩ | ((repeat apply Exists.intro); exact ⟨⟨k + 1, k, by omega, by omega, by go_num, rfl, HB.out, below_drewN (hbel) _⟩, rfl⟩)
        case measure => simp [intOf]; omega
      · have HB := Lib.hid (show Hid (b = bestTo (fun k => F2 k) (k + 1)) by have h := hbest.out; show _ = _; rw [bestTo_no (by rw [← h]; exact hc)]; exact h)
        have hcd : decide (F2 b < F2 k) = false := by simpa using hc
        clear hbest
        go_wp2
        go_big_quiet (fail)
        go_wp2
        go_roundw
        case rel => first | exact ⟨k + 1, b, by omega, by omega, by go_num, rfl, HB.out, below_drewN (hbel) _⟩ | ((repeat apply Exists.intro); exact ⟨⟨k + 1, b, by omega, by omega, by go_num, rfl, HB.out, below_drewN (hbel) _⟩, rfl⟩)
        case measure => simp [intOf]; omega
    · obtain rfl : k = n := by omega
      have hv := HV.out
      rw [← hbest.out] at hv
      simp only [Prod.mk.injEq] at hv
      clear hbest
      go_wp2
      go_ret2
      exact ⟨by rw [← hv.1, ← hv.2]; rfl, hbel⟩

set_option maxHeartbeats 2000000 in
theorem implHeaviestPart_any (g n : Nat) (F0 : Nat → ByteArray) (F1 : Nat → Int) (F2 : Nat → Int)  (v1 : Int) (v2 : Int) (w : World) (t1 : TypeId) (hn : n ≤ 1048576) (h1 : w.rowIs g t1 (n * 3) (flat 3 (rowPart F0 F1 F2))) (hS0 : ∀ i, i < n → (F0 i).size ≤ maxLen)  (hv : heavyRes n F0 F1 F2  = (v1, v2)) :
    Calls Try.prog 29 #[.slice (some ⟨g, 0, none⟩) n n] w fun e w' => e = .returned (.tuple #[.int .i64 v1, .int .i64 v2]) ∧ Below w.heap.size w w' := by
  have hl1 := h1.lt
  have HR1 := Lib.hid (RdPart.of_row h1)
  have H1 := Lib.hid h1
  have HS0 := Lib.hid hS0
  clear h1 hS0
  by_cases e0 : listPart n F0 F1 F2 = true
  case neg =>
    obtain ⟨rfl, rfl⟩ : v1 = 0 ∧ v2 = 1 := by unfold heavyRes at hv; rw [if_neg e0] at hv; simpa [eq_comm] using hv
    have e0n : (listPart n F0 F1 F2) = false := by simpa using e0
    clear hv e0
    go_enter Try.func29, Try.ntmps29
    go_wp2_with fail
    refine (ValidPart_any _ _ F0 F1 F2 _ _ hn H1.out HS0.out).mono ?_
    rintro e w1 ⟨rfl, hb1⟩
    go_wp2_with (first | (go_at_call 61; refine (within_any _ _ _ _).mono ?_; rintro e w' ⟨rfl, rfl⟩) | go_in)
    go_ret2
    exact ⟨rfl, hb1⟩
  replace hv : (((bestTo (fun k => F2 k) n : Nat) : Int), 0) = (v1, v2) := by unfold heavyRes at hv; rw [if_pos e0] at hv; exact hv
  have HV := Lib.hid hv
  clear hv
  go_enter Try.func29, Try.ntmps29
  go_wp2_with fail
  refine (ValidPart_any _ _ F0 F1 F2 _ _ hn H1.out HS0.out).mono ?_
  rintro e w1 ⟨rfl, hb1⟩
  have H2 := Lib.hid (row_below H1.out hb1 H1.out.lt)
  have hn1 := listPart_len e0
  go_wp2
  go_loopw [4, 12] (fun v i wr => ∃ (k b : Nat), k ≤ n ∧ b < n ∧ i = .int .i64 k ∧ v = .int .i64 b ∧ Hid (b = bestTo (fun k => F2 k) k) ∧ Below w.heap.size w wr) (fun _ i _ => n - (intOf i).toNat)
  case atStart => exact ⟨0, 0, by omega, by omega, rfl, rfl, rfl, hb1⟩
  case round =>
    obtain ⟨k, b, hk, hbn, rfl, rfl, hbest, hbel⟩ := hrel
    by_cases hlt : k < n
    · have hlti : (k : Int) < (n : Int) := by omega
      have hki : (0 : Int) ≤ (k : Int) := by omega
      have hbi : (b : Int) < (n : Int) := by omega
      have hb0 : (0 : Int) ≤ (b : Int) := by omega
      obtain ⟨d0, d1, d2⟩ := HR1.out b hbn
      rw [← bcell hbel _ _ hl1] at d0 d1 d2
      simp only [Nat.zero_add] at d0 d1 d2
      have hgl : g < wr.heap.size := Nat.lt_of_lt_of_le hl1 hbel.size
      obtain ⟨c0, c1, c2⟩ := HR1.out k hlt
      have hbc := bcell hbel
      rw [← hbc _ _ hl1] at c0 c1 c2
      simp only [Nat.zero_add] at c0 c1 c2
      clear hbc
      by_cases hc : F2 b < F2 k
      · have HB := Lib.hid (show Hid (k = bestTo (fun k => F2 k) (k + 1)) by have h := hbest.out; show _ = _; rw [bestTo_yes (by rw [← h]; exact hc)])
        clear hbest
        go_wp2
        go_big_quiet (fail)
        go_wp2
        go_roundw
        case rel => first | exact ⟨k + 1, k, by omega, by omega, by go_num, rfl, HB.out, below_drewN (hbel.alloc hbel.size _) _⟩ | ((repeat apply Exists.intro); exact ⟨⟨k + 1, k, by omega, by omega, by go_num, rfl, HB.out, below_drewN (hbel.alloc hbel.size _) _⟩, rfl⟩)
        case measure => simp [intOf]; omega
      · have HB := Lib.hid (show Hid (b = bestTo (fun k => F2 k) (k + 1)) by have h := hbest.out; show _ = _; rw [bestTo_no (by rw [← h]; exact hc)]; exact h)
        have hcd : decide (F2 b < F2 k) = false := by simpa using hc
        clear hbest
        go_wp2
        go_big_quiet (fail)
        go_wp2
        go_roundw
        case rel => first | exact ⟨k + 1, b, by omega, by omega, by go_num, rfl, HB.out, below_drewN (hbel.alloc hbel.size _) _⟩ | ((repeat apply Exists.intro); exact ⟨⟨k + 1, b, by omega, by omega, by go_num, rfl, HB.out, below_drewN (hbel.alloc hbel.size _) _⟩, rfl⟩)
        case measure => simp [intOf]; omega
    · obtain rfl : k = n := by omega
      have hv := HV.out
      rw [← hbest.out] at hv
      simp only [Prod.mk.injEq] at hv
      clear hbest
      go_wp2
      go_ret2
      exact ⟨by rw [← hv.1, ← hv.2]; rfl, hbel⟩

/-- What the function hands back. -/
def inertRes (n : Nat) (F0 : Nat → ByteArray) (F1 : Nat → Int) (F2 : Nat → Int) (at_ : Int) : Int × Int := (if listPart n F0 F1 F2 = true then (if inB at_ 0 8000 = true then (wrap64 ((sumAll (fun k => wrap64 (wrap64 (F2 k * wrap64 (F1 k - at_)) * wrap64 (F1 k - at_))) n).tdiv 1000), 0) else (0, 2)) else (0, 1))

set_option maxHeartbeats 2000000 in
theorem specInertiaOf_any (g n : Nat) (F0 : Nat → ByteArray) (F1 : Nat → Int) (F2 : Nat → Int) (at_ : Int) (v1 : Int) (v2 : Int) (w : World) (t1 : TypeId) (hn : n ≤ 1048576) (h1 : w.rowIs g t1 (n * 3) (flat 3 (rowPart F0 F1 F2))) (hS0 : ∀ i, i < n → (F0 i).size ≤ maxLen)  (hv : inertRes n F0 F1 F2 at_ = (v1, v2)) :
    Calls Try.prog 31 #[.slice (some ⟨g, 0, none⟩) n n, .int .i64 at_] w fun e w' => e = .returned (.tuple #[.int .i64 v1, .int .i64 v2]) ∧ Below w.heap.size w w' := by
  have hl1 := h1.lt
  have HR1 := Lib.hid (RdPart.of_row h1)
  have H1 := Lib.hid h1
  have HS0 := Lib.hid hS0
  clear h1 hS0
  by_cases e0 : listPart n F0 F1 F2 = true
  case neg =>
    obtain ⟨rfl, rfl⟩ : v1 = 0 ∧ v2 = 1 := by unfold inertRes at hv; rw [if_neg e0] at hv; simpa [eq_comm] using hv
    have e0n : (listPart n F0 F1 F2) = false := by simpa using e0
    clear hv e0
    go_enter Try.func31, Try.ntmps31
    go_wp2_with fail
    refine (OkPart_any _ _ F0 F1 F2 _ _ hn H1.out HS0.out).mono ?_
    rintro e w1 ⟨rfl, hb1⟩
    go_wp2_with (first | (go_at_call 94; refine (l00In_any _ _ _ _).mono ?_; rintro e w' ⟨rfl, rfl⟩) | go_in)
    go_ret2
    exact ⟨rfl, hb1⟩
  by_cases e1 : inB at_ 0 8000 = true
  case neg =>
    obtain ⟨rfl, rfl⟩ : v1 = 0 ∧ v2 = 2 := by unfold inertRes at hv; rw [if_pos e0, if_neg e1] at hv; simpa [eq_comm] using hv
    have e1n : (inB at_ 0 8000) = false := by simpa using e1
    clear hv e1
    go_enter Try.func31, Try.ntmps31
    go_wp2_with fail
    refine (OkPart_any _ _ F0 F1 F2 _ _ hn H1.out HS0.out).mono ?_
    rintro e w1 ⟨rfl, hb1⟩
    go_wp2_with (first | (go_at_call 94; refine (l00In_any _ _ _ _).mono ?_; rintro e w' ⟨rfl, rfl⟩) | go_in)
    go_ret2
    exact ⟨rfl, hb1⟩
  replace hv : (wrap64 ((sumAll (fun k => wrap64 (wrap64 (F2 k * wrap64 (F1 k - at_)) * wrap64 (F1 k - at_))) n).tdiv 1000), 0) = (v1, v2) := by unfold inertRes at hv; rw [if_pos e0, if_pos e1] at hv; exact hv
  have HV := Lib.hid hv
  clear hv
  go_enter Try.func31, Try.ntmps31
  go_wp2_with fail
  refine (OkPart_any _ _ F0 F1 F2 _ _ hn H1.out HS0.out).mono ?_
  rintro e w1 ⟨rfl, hb1⟩
  have H2 := Lib.hid (row_below H1.out hb1 H1.out.lt)
  go_wp2_with (first | (go_at_call 94; refine (l00In_any _ _ _ _).mono ?_; rintro e w' ⟨rfl, rfl⟩) | go_in)
  go_loopw [6, 7] (fun v i wr => ∃ (k : Nat), k ≤ n ∧ i = .int .i64 k ∧ v = .int .i64 (sumAll (fun k => wrap64 (wrap64 (F2 k * wrap64 (F1 k - at_)) * wrap64 (F1 k - at_))) k) ∧ Below w.heap.size w wr) (fun _ i _ => n - (intOf i).toNat)
  case atStart => exact ⟨0, Nat.zero_le _, rfl, rfl, hb1⟩
  case round =>
    obtain ⟨k, hk, rfl, rfl, hbel⟩ := hrel
    by_cases hlt : k < n
    · have hlti : (k : Int) < (n : Int) := by omega
      have hki : (0 : Int) ≤ (k : Int) := by omega
      obtain ⟨c0, c1, c2⟩ := HR1.out k hlt
      have hbc := bcell hbel
      rw [← hbc _ _ hl1] at c0 c1 c2
      simp only [Nat.zero_add] at c0 c1 c2
      clear hbc
      have HF := Lib.hid (sumAll_succ (fun k => wrap64 (wrap64 (F2 k * wrap64 (F1 k - at_)) * wrap64 (F1 k - at_))) k)
      go_wp2
      go_roundw
      case rel => first | exact ⟨k + 1, by omega, by go_num, by rw [HF.out], hbel⟩ | ((repeat apply Exists.intro); exact ⟨⟨k + 1, by omega, by go_num, by rw [HF.out], hbel⟩, rfl⟩)
      case measure => simp [intOf]; omega
    · obtain rfl : k = n := by omega
      have hv := HV.out
      simp only [Prod.mk.injEq] at hv
      go_wp2
      go_ret2
      exact ⟨by rw [← hv.1, ← hv.2]; rfl, hbel⟩

set_option maxHeartbeats 2000000 in
theorem implInertiaOf_any (g n : Nat) (F0 : Nat → ByteArray) (F1 : Nat → Int) (F2 : Nat → Int) (at_ : Int) (v1 : Int) (v2 : Int) (w : World) (t1 : TypeId) (hn : n ≤ 1048576) (h1 : w.rowIs g t1 (n * 3) (flat 3 (rowPart F0 F1 F2))) (hS0 : ∀ i, i < n → (F0 i).size ≤ maxLen)  (hv : inertRes n F0 F1 F2 at_ = (v1, v2)) :
    Calls Try.prog 32 #[.slice (some ⟨g, 0, none⟩) n n, .int .i64 at_] w fun e w' => e = .returned (.tuple #[.int .i64 v1, .int .i64 v2]) ∧ Below w.heap.size w w' := by
  have hl1 := h1.lt
  have HR1 := Lib.hid (RdPart.of_row h1)
  have H1 := Lib.hid h1
  have HS0 := Lib.hid hS0
  clear h1 hS0
  by_cases e0 : listPart n F0 F1 F2 = true
  case neg =>
    obtain ⟨rfl, rfl⟩ : v1 = 0 ∧ v2 = 1 := by unfold inertRes at hv; rw [if_neg e0] at hv; simpa [eq_comm] using hv
    have e0n : (listPart n F0 F1 F2) = false := by simpa using e0
    clear hv e0
    go_enter Try.func32, Try.ntmps32
    go_wp2_with fail
    refine (ValidPart_any _ _ F0 F1 F2 _ _ hn H1.out HS0.out).mono ?_
    rintro e w1 ⟨rfl, hb1⟩
    go_wp2_with (first | (go_at_call 61; refine (within_any _ _ _ _).mono ?_; rintro e w' ⟨rfl, rfl⟩) | go_in)
    go_ret2
    exact ⟨rfl, hb1⟩
  by_cases e1 : inB at_ 0 8000 = true
  case neg =>
    obtain ⟨rfl, rfl⟩ : v1 = 0 ∧ v2 = 2 := by unfold inertRes at hv; rw [if_pos e0, if_neg e1] at hv; simpa [eq_comm] using hv
    have e1n : (inB at_ 0 8000) = false := by simpa using e1
    clear hv e1
    go_enter Try.func32, Try.ntmps32
    go_wp2_with fail
    refine (ValidPart_any _ _ F0 F1 F2 _ _ hn H1.out HS0.out).mono ?_
    rintro e w1 ⟨rfl, hb1⟩
    go_wp2_with (first | (go_at_call 61; refine (within_any _ _ _ _).mono ?_; rintro e w' ⟨rfl, rfl⟩) | go_in)
    go_ret2
    exact ⟨rfl, hb1⟩
  replace hv : (wrap64 ((sumAll (fun k => wrap64 (wrap64 (F2 k * wrap64 (F1 k - at_)) * wrap64 (F1 k - at_))) n).tdiv 1000), 0) = (v1, v2) := by unfold inertRes at hv; rw [if_pos e0, if_pos e1] at hv; exact hv
  have HV := Lib.hid hv
  clear hv
  go_enter Try.func32, Try.ntmps32
  go_wp2_with fail
  refine (ValidPart_any _ _ F0 F1 F2 _ _ hn H1.out HS0.out).mono ?_
  rintro e w1 ⟨rfl, hb1⟩
  have H2 := Lib.hid (row_below H1.out hb1 H1.out.lt)
  go_wp2_with (first | (go_at_call 61; refine (within_any _ _ _ _).mono ?_; rintro e w' ⟨rfl, rfl⟩) | go_in)
  go_loopw [6, 17] (fun v i wr => ∃ (k : Nat), k ≤ n ∧ i = .int .i64 k ∧ v = .int .i64 (sumAll (fun k => wrap64 (wrap64 (F2 k * wrap64 (F1 k - at_)) * wrap64 (F1 k - at_))) k) ∧ Below w.heap.size w wr) (fun _ i _ => n - (intOf i).toNat)
  case atStart => exact ⟨0, Nat.zero_le _, rfl, rfl, hb1⟩
  case round =>
    obtain ⟨k, hk, rfl, rfl, hbel⟩ := hrel
    by_cases hlt : k < n
    · have hlti : (k : Int) < (n : Int) := by omega
      have hki : (0 : Int) ≤ (k : Int) := by omega
      obtain ⟨c0, c1, c2⟩ := HR1.out k hlt
      have hbc := bcell hbel
      rw [← hbc _ _ hl1] at c0 c1 c2
      simp only [Nat.zero_add] at c0 c1 c2
      clear hbc
      have HF := Lib.hid (sumAll_succ (fun k => wrap64 (wrap64 (F2 k * wrap64 (F1 k - at_)) * wrap64 (F1 k - at_))) k)
      go_wp2
      go_roundw
      case rel => first | exact ⟨k + 1, by omega, by go_num, by rw [HF.out], hbel.alloc hbel.size _⟩ | ((repeat apply Exists.intro); exact ⟨⟨k + 1, by omega, by go_num, by rw [HF.out], hbel.alloc hbel.size _⟩, rfl⟩)
      case measure => simp [intOf]; omega
    · obtain rfl : k = n := by omega
      have hv := HV.out
      simp only [Prod.mk.injEq] at hv
      go_wp2
      go_ret2
      exact ⟨by rw [← hv.1, ← hv.2]; rfl, hbel⟩

set_option maxHeartbeats 2000000 in
theorem l11Mass_any (g n : Nat) (F0 : Nat → ByteArray) (F1 : Nat → Int) (F2 : Nat → Int)  (w : World) (t1 : TypeId) (hn : n ≤ 1048576) (h1 : w.rowIs g t1 (n * 3) (flat 3 (rowPart F0 F1 F2)))   :
    Calls Try.prog 70 #[.slice (some ⟨g, 0, none⟩) n n] w fun e w' => e = .returned (.int .i64 (sumAll (fun k => F2 k) n)) ∧ Below w.heap.size w w' := by
  have hl1 := h1.lt
  have HR1 := Lib.hid (RdPart.of_row h1)
  have H1 := Lib.hid h1
  clear h1 
  go_enter Try.func70, Try.ntmps70
  go_wp2
  go_loopw [3, 4] (fun v i wr => ∃ (k : Nat), k ≤ n ∧ i = .int .i64 k ∧ v = .int .i64 (sumAll (fun k => F2 k) k) ∧ Below w.heap.size w wr) (fun _ i _ => n - (intOf i).toNat)
  case atStart => exact ⟨0, Nat.zero_le _, rfl, rfl, Below.refl _ _⟩
  case round =>
    obtain ⟨k, hk, rfl, rfl, hbel⟩ := hrel
    by_cases hlt : k < n
    · have hlti : (k : Int) < (n : Int) := by omega
      have hki : (0 : Int) ≤ (k : Int) := by omega
      obtain ⟨c0, c1, c2⟩ := HR1.out k hlt
      have hbc := bcell hbel
      rw [← hbc _ _ hl1] at c0 c1 c2
      simp only [Nat.zero_add] at c0 c1 c2
      clear hbc
      have HF := Lib.hid (sumAll_succ (fun k => F2 k) k)
      go_wp2
      go_roundw
      case rel => first | exact ⟨k + 1, by omega, by go_num, by rw [HF.out], hbel⟩ | ((repeat apply Exists.intro); exact ⟨⟨k + 1, by omega, by go_num, by rw [HF.out], hbel⟩, rfl⟩)
      case measure => simp [intOf]; omega
    · obtain rfl : k = n := by omega
      go_wp2
      go_ret
      exact ⟨rfl, hbel⟩

set_option maxHeartbeats 2000000 in
theorem l11Moment_any (g n : Nat) (F0 : Nat → ByteArray) (F1 : Nat → Int) (F2 : Nat → Int)  (w : World) (t1 : TypeId) (hn : n ≤ 1048576) (h1 : w.rowIs g t1 (n * 3) (flat 3 (rowPart F0 F1 F2)))   :
    Calls Try.prog 73 #[.slice (some ⟨g, 0, none⟩) n n] w fun e w' => e = .returned (.int .i64 (sumAll (fun k => wrap64 (F2 k * F1 k)) n)) ∧ Below w.heap.size w w' := by
  have hl1 := h1.lt
  have HR1 := Lib.hid (RdPart.of_row h1)
  have H1 := Lib.hid h1
  clear h1 
  go_enter Try.func73, Try.ntmps73
  go_wp2
  go_loopw [3, 4] (fun v i wr => ∃ (k : Nat), k ≤ n ∧ i = .int .i64 k ∧ v = .int .i64 (sumAll (fun k => wrap64 (F2 k * F1 k)) k) ∧ Below w.heap.size w wr) (fun _ i _ => n - (intOf i).toNat)
  case atStart => exact ⟨0, Nat.zero_le _, rfl, rfl, Below.refl _ _⟩
  case round =>
    obtain ⟨k, hk, rfl, rfl, hbel⟩ := hrel
    by_cases hlt : k < n
    · have hlti : (k : Int) < (n : Int) := by omega
      have hki : (0 : Int) ≤ (k : Int) := by omega
      obtain ⟨c0, c1, c2⟩ := HR1.out k hlt
      have hbc := bcell hbel
      rw [← hbc _ _ hl1] at c0 c1 c2
      simp only [Nat.zero_add] at c0 c1 c2
      clear hbc
      have HF := Lib.hid (sumAll_succ (fun k => wrap64 (F2 k * F1 k)) k)
      go_wp2
      go_big_quiet (fail)
      go_wp2
      go_roundw
      case rel => first | exact ⟨k + 1, by omega, by go_num, by rw [HF.out], below_drewN (hbel) _⟩ | ((repeat apply Exists.intro); exact ⟨⟨k + 1, by omega, by go_num, by rw [HF.out], below_drewN (hbel) _⟩, rfl⟩)
      case measure => simp [intOf]; omega
    · obtain rfl : k = n := by omega
      go_wp2
      go_ret
      exact ⟨rfl, hbel⟩

set_option maxHeartbeats 2000000 in
theorem weigh_any (g n : Nat) (F0 : Nat → ByteArray) (F1 : Nat → Int) (F2 : Nat → Int)  (w : World) (t1 : TypeId) (hn : n ≤ 1048576) (h1 : w.rowIs g t1 (n * 3) (flat 3 (rowPart F0 F1 F2)))   :
    Calls Try.prog 71 #[.slice (some ⟨g, 0, none⟩) n n] w fun e w' => e = .returned (.tuple #[.int .i64 (sumAll (fun k => F2 k) n), .int .i64 (sumAll (fun k => wrap64 (F2 k * F1 k)) n)]) ∧ Below w.heap.size w w' := by
  have hl1 := h1.lt
  have HR1 := Lib.hid (RdPart.of_row h1)
  have H1 := Lib.hid h1
  clear h1 
  go_enter Try.func71, Try.ntmps71
  go_wp2
  go_loopw [4, 5, 10] (fun v u i wr => ∃ (k : Nat), k ≤ n ∧ i = .int .i64 k ∧ v = .int .i64 (sumAll (fun k => F2 k) k) ∧ u = .int .i64 (sumAll (fun k => wrap64 (F2 k * F1 k)) k) ∧ Below w.heap.size w wr) (fun _ _ i _ => n - (intOf i).toNat)
  case atStart => exact ⟨0, Nat.zero_le _, rfl, rfl, rfl, Below.refl _ _⟩
  case round =>
    obtain ⟨k, hk, rfl, rfl, rfl, hbel⟩ := hrel
    by_cases hlt : k < n
    · have hlti : (k : Int) < (n : Int) := by omega
      have hki : (0 : Int) ≤ (k : Int) := by omega
      obtain ⟨c0, c1, c2⟩ := HR1.out k hlt
      have hbc := bcell hbel
      rw [← hbc _ _ hl1] at c0 c1 c2
      simp only [Nat.zero_add] at c0 c1 c2
      clear hbc
      have HF := Lib.hid (sumAll_succ (fun k => F2 k) k)
      have HG := Lib.hid (sumAll_succ (fun k => wrap64 (F2 k * F1 k)) k)
      go_wp2
      go_roundw
      case rel => first | exact ⟨k + 1, by omega, by go_num, by rw [HF.out], by rw [HG.out], hbel.alloc hbel.size _⟩ | ((repeat apply Exists.intro); exact ⟨⟨k + 1, by omega, by go_num, by rw [HF.out], by rw [HG.out], hbel.alloc hbel.size _⟩, rfl⟩)
      case measure => simp [intOf]; omega
    · obtain rfl : k = n := by omega
      go_wp2
      go_ret2
      exact ⟨rfl, hbel⟩

/-- What the function hands back. -/
def massRes (n : Nat) (F0 : Nat → ByteArray) (F1 : Nat → Int) (F2 : Nat → Int)  : Int × Int := (if listPart n F0 F1 F2 = true then ((sumAll (fun k => F2 k) n), 0) else (0, 1))

set_option maxHeartbeats 2000000 in
theorem specBowMass_any (g n : Nat) (F0 : Nat → ByteArray) (F1 : Nat → Int) (F2 : Nat → Int)  (v1 : Int) (v2 : Int) (w : World) (t1 : TypeId) (hn : n ≤ 1048576) (h1 : w.rowIs g t1 (n * 3) (flat 3 (rowPart F0 F1 F2))) (hS0 : ∀ i, i < n → (F0 i).size ≤ maxLen)  (hv : massRes n F0 F1 F2  = (v1, v2)) :
    Calls Try.prog 33 #[.slice (some ⟨g, 0, none⟩) n n] w fun e w' => e = .returned (.tuple #[.int .i64 v1, .int .i64 v2]) ∧ Below w.heap.size w w' := by
  have hl1 := h1.lt
  have HR1 := Lib.hid (RdPart.of_row h1)
  have H1 := Lib.hid h1
  have HS0 := Lib.hid hS0
  clear h1 hS0
  by_cases e0 : listPart n F0 F1 F2 = true
  case neg =>
    obtain ⟨rfl, rfl⟩ : v1 = 0 ∧ v2 = 1 := by unfold massRes at hv; rw [if_neg e0] at hv; simpa [eq_comm] using hv
    have e0n : (listPart n F0 F1 F2) = false := by simpa using e0
    clear hv e0
    go_enter Try.func33, Try.ntmps33
    go_wp2_with fail
    refine (OkPart_any _ _ F0 F1 F2 _ _ hn H1.out HS0.out).mono ?_
    rintro e w1 ⟨rfl, hb1⟩
    go_wp2_with (first | (go_at_call 94; refine (l00In_any _ _ _ _).mono ?_; rintro e w' ⟨rfl, rfl⟩) | go_in)
    go_ret2
    exact ⟨rfl, hb1⟩
  replace hv : ((sumAll (fun k => F2 k) n), 0) = (v1, v2) := by unfold massRes at hv; rw [if_pos e0] at hv; exact hv
  have HV := Lib.hid hv
  clear hv
  go_enter Try.func33, Try.ntmps33
  go_wp2_with fail
  refine (OkPart_any _ _ F0 F1 F2 _ _ hn H1.out HS0.out).mono ?_
  rintro e w1 ⟨rfl, hb1⟩
  have H2 := Lib.hid (row_below H1.out hb1 H1.out.lt)
  go_wp2_with (first | (go_at_call 70; refine (l11Mass_any _ _ F0 F1 F2 _ _ hn H2.out).mono ?_; rintro e w2 ⟨rfl, hb2⟩))
  have hv := HV.out
  simp only [Prod.mk.injEq] at hv
  go_ret2
  exact ⟨by rw [← hv.1, ← hv.2]; rfl, hb1.trans (hb2.mono hb1.size)⟩

set_option maxHeartbeats 2000000 in
theorem implBowMass_any (g n : Nat) (F0 : Nat → ByteArray) (F1 : Nat → Int) (F2 : Nat → Int)  (v1 : Int) (v2 : Int) (w : World) (t1 : TypeId) (hn : n ≤ 1048576) (h1 : w.rowIs g t1 (n * 3) (flat 3 (rowPart F0 F1 F2))) (hS0 : ∀ i, i < n → (F0 i).size ≤ maxLen)  (hv : massRes n F0 F1 F2  = (v1, v2)) :
    Calls Try.prog 34 #[.slice (some ⟨g, 0, none⟩) n n] w fun e w' => e = .returned (.tuple #[.int .i64 v1, .int .i64 v2]) ∧ Below w.heap.size w w' := by
  have hl1 := h1.lt
  have HR1 := Lib.hid (RdPart.of_row h1)
  have H1 := Lib.hid h1
  have HS0 := Lib.hid hS0
  clear h1 hS0
  by_cases e0 : listPart n F0 F1 F2 = true
  case neg =>
    obtain ⟨rfl, rfl⟩ : v1 = 0 ∧ v2 = 1 := by unfold massRes at hv; rw [if_neg e0] at hv; simpa [eq_comm] using hv
    have e0n : (listPart n F0 F1 F2) = false := by simpa using e0
    clear hv e0
    go_enter Try.func34, Try.ntmps34
    go_wp2_with fail
    refine (ValidPart_any _ _ F0 F1 F2 _ _ hn H1.out HS0.out).mono ?_
    rintro e w1 ⟨rfl, hb1⟩
    go_wp2_with (first | (go_at_call 61; refine (within_any _ _ _ _).mono ?_; rintro e w' ⟨rfl, rfl⟩) | go_in)
    go_ret2
    exact ⟨rfl, hb1⟩
  replace hv : ((sumAll (fun k => F2 k) n), 0) = (v1, v2) := by unfold massRes at hv; rw [if_pos e0] at hv; exact hv
  have HV := Lib.hid hv
  clear hv
  go_enter Try.func34, Try.ntmps34
  go_wp2_with fail
  refine (ValidPart_any _ _ F0 F1 F2 _ _ hn H1.out HS0.out).mono ?_
  rintro e w1 ⟨rfl, hb1⟩
  have H2 := Lib.hid (row_below H1.out hb1 H1.out.lt)
  go_wp2_with (first | (go_at_call 71; refine (weigh_any _ _ F0 F1 F2 _ _ hn H2.out).mono ?_; rintro e w2 ⟨rfl, hb2⟩))
  have hv := HV.out
  simp only [Prod.mk.injEq] at hv
  go_ret2
  exact ⟨by rw [← hv.1, ← hv.2]; rfl, hb1.trans (hb2.mono hb1.size)⟩

theorem mass_bd {n : Nat} {F0 : Nat → ByteArray} {F1 : Nat → Int} {F2 : Nat → Int} (h : listPart n F0 F1 F2 = true) : (1 ≤ (sumAll (fun k => F2 k) n) ∧ (sumAll (fun k => F2 k) n) ≤ 1200000) ∧ (0 ≤ (sumAll (fun k => wrap64 (F2 k * F1 k)) n) ∧ (sumAll (fun k => wrap64 (F2 k * F1 k)) n) ≤ 9600000000) := by
  have hn := listPart_len h
  have hk : ∀ k, k < n → (0 ≤ F1 k ∧ F1 k ≤ 8000) ∧ (1 ≤ F2 k ∧ F2 k ≤ 100000) := fun k hk => vPart_bd (listPart_at h k hk)
  have h1 := sumAll_low (f := fun k => F2 k) (M := 100000) (by omega) (by omega) n (by omega) (fun k hk1 => (hk k hk1).2)
  have h2 := sumAll_bound (f := fun k => F2 k) (M := 100000) (by omega) (by omega) n (by omega) (fun k hk1 => ⟨by have := (hk k hk1).2.1; show 0 ≤ F2 k; omega, (hk k hk1).2.2⟩)
  have h3 := sumAll_bound (f := fun k => wrap64 (F2 k * F1 k)) (M := 800000000) (by omega) (by omega) n (by omega) (fun k hk1 => by
    have hq := hk k hk1
    have a1 : 0 ≤ F2 k * F1 k := Int.mul_nonneg (by omega) (by omega)
    have a2 : F2 k * F1 k ≤ 100000 * 8000 := Int.mul_le_mul (by omega) (by omega) (by omega) (by omega)
    show 0 ≤ wrap64 (F2 k * F1 k) ∧ wrap64 (F2 k * F1 k) ≤ 800000000
    rw [wrap64_id (by omega) (by omega)]; omega)
  omega

/-- What the function hands back. -/
def balRes (n : Nat) (F0 : Nat → ByteArray) (F1 : Nat → Int) (F2 : Nat → Int)  : Int × Int := (if listPart n F0 F1 F2 = true then (rdiv (sumAll (fun k => wrap64 (F2 k * F1 k)) n) (sumAll (fun k => F2 k) n), 0) else (0, 1))

set_option maxHeartbeats 2000000 in
theorem specBalanceOf_any (g n : Nat) (F0 : Nat → ByteArray) (F1 : Nat → Int) (F2 : Nat → Int)  (v1 : Int) (v2 : Int) (w : World) (t1 : TypeId) (hn : n ≤ 1048576) (h1 : w.rowIs g t1 (n * 3) (flat 3 (rowPart F0 F1 F2))) (hS0 : ∀ i, i < n → (F0 i).size ≤ maxLen)  (hv : balRes n F0 F1 F2  = (v1, v2)) :
    Calls Try.prog 35 #[.slice (some ⟨g, 0, none⟩) n n] w fun e w' => e = .returned (.tuple #[.int .i64 v1, .int .i64 v2]) ∧ Below w.heap.size w w' := by
  have hl1 := h1.lt
  have HR1 := Lib.hid (RdPart.of_row h1)
  have H1 := Lib.hid h1
  have HS0 := Lib.hid hS0
  clear h1 hS0
  by_cases e0 : listPart n F0 F1 F2 = true
  case neg =>
    obtain ⟨rfl, rfl⟩ : v1 = 0 ∧ v2 = 1 := by unfold balRes at hv; rw [if_neg e0] at hv; simpa [eq_comm] using hv
    have e0n : (listPart n F0 F1 F2) = false := by simpa using e0
    clear hv e0
    go_enter Try.func35, Try.ntmps35
    go_wp2_with fail
    refine (OkPart_any _ _ F0 F1 F2 _ _ hn H1.out HS0.out).mono ?_
    rintro e w1 ⟨rfl, hb1⟩
    go_wp2_with (first | (go_at_call 94; refine (l00In_any _ _ _ _).mono ?_; rintro e w' ⟨rfl, rfl⟩) | go_in)
    go_ret2
    exact ⟨rfl, hb1⟩
  replace hv : (rdiv (sumAll (fun k => wrap64 (F2 k * F1 k)) n) (sumAll (fun k => F2 k) n), 0) = (v1, v2) := by unfold balRes at hv; rw [if_pos e0] at hv; exact hv
  have HV := Lib.hid hv
  clear hv
  go_enter Try.func35, Try.ntmps35
  go_wp2_with fail
  refine (OkPart_any _ _ F0 F1 F2 _ _ hn H1.out HS0.out).mono ?_
  rintro e w1 ⟨rfl, hb1⟩
  have H2 := Lib.hid (row_below H1.out hb1 H1.out.lt)
  go_wp2_with fail
  refine (l11Moment_any _ _ F0 F1 F2 _ _ hn H2.out).mono ?_
  rintro e w2 ⟨rfl, hb2⟩
  have H3 := Lib.hid (row_below H2.out hb2 H2.out.lt)
  go_wp2_with fail
  refine (l11Mass_any _ _ F0 F1 F2 _ _ hn H3.out).mono ?_
  rintro e w3 ⟨rfl, hb3⟩
  have hbd := mass_bd e0
  obtain ⟨⟨m1, m2⟩, ⟨q1, q2⟩⟩ := hbd
  have hv := HV.out
  simp only [Prod.mk.injEq] at hv
  generalize (sumAll (fun k => F2 k) n) = M1 at *
  generalize (sumAll (fun k => wrap64 (F2 k * F1 k)) n) = M2 at *
  obtain ⟨hv1, hv2⟩ := hv
  subst hv1 hv2
  clear HV
  go_wp2_with (go_at_call 72; refine (l01Div_any _ _ _ (by omega) (by omega) (by omega) (by omega)).mono ?_; rintro e w' ⟨rfl, rfl⟩)
  go_ret2
  exact ⟨rfl, (hb1.trans (hb2.mono hb1.size)).trans (hb3.mono (Nat.le_trans hb1.size hb2.size))⟩

set_option maxHeartbeats 2000000 in
theorem implBalanceOf_any (g n : Nat) (F0 : Nat → ByteArray) (F1 : Nat → Int) (F2 : Nat → Int)  (v1 : Int) (v2 : Int) (w : World) (t1 : TypeId) (hn : n ≤ 1048576) (h1 : w.rowIs g t1 (n * 3) (flat 3 (rowPart F0 F1 F2))) (hS0 : ∀ i, i < n → (F0 i).size ≤ maxLen)  (hv : balRes n F0 F1 F2  = (v1, v2)) :
    Calls Try.prog 36 #[.slice (some ⟨g, 0, none⟩) n n] w fun e w' => e = .returned (.tuple #[.int .i64 v1, .int .i64 v2]) ∧ Below w.heap.size w w' := by
  have hl1 := h1.lt
  have HR1 := Lib.hid (RdPart.of_row h1)
  have H1 := Lib.hid h1
  have HS0 := Lib.hid hS0
  clear h1 hS0
  by_cases e0 : listPart n F0 F1 F2 = true
  case neg =>
    obtain ⟨rfl, rfl⟩ : v1 = 0 ∧ v2 = 1 := by unfold balRes at hv; rw [if_neg e0] at hv; simpa [eq_comm] using hv
    have e0n : (listPart n F0 F1 F2) = false := by simpa using e0
    clear hv e0
    go_enter Try.func36, Try.ntmps36
    go_wp2_with fail
    refine (ValidPart_any _ _ F0 F1 F2 _ _ hn H1.out HS0.out).mono ?_
    rintro e w1 ⟨rfl, hb1⟩
    go_wp2_with (first | (go_at_call 61; refine (within_any _ _ _ _).mono ?_; rintro e w' ⟨rfl, rfl⟩) | go_in)
    go_ret2
    exact ⟨rfl, hb1⟩
  replace hv : (rdiv (sumAll (fun k => wrap64 (F2 k * F1 k)) n) (sumAll (fun k => F2 k) n), 0) = (v1, v2) := by unfold balRes at hv; rw [if_pos e0] at hv; exact hv
  have HV := Lib.hid hv
  clear hv
  go_enter Try.func36, Try.ntmps36
  go_wp2_with fail
  refine (ValidPart_any _ _ F0 F1 F2 _ _ hn H1.out HS0.out).mono ?_
  rintro e w1 ⟨rfl, hb1⟩
  have H2 := Lib.hid (row_below H1.out hb1 H1.out.lt)
  go_wp2_with fail
  refine (weigh_any _ _ F0 F1 F2 _ _ hn H2.out).mono ?_
  rintro e w2 ⟨rfl, hb2⟩
  have hbd := mass_bd e0
  obtain ⟨⟨m1, m2⟩, ⟨q1, q2⟩⟩ := hbd
  have hv := HV.out
  simp only [Prod.mk.injEq] at hv
  generalize (sumAll (fun k => F2 k) n) = M1 at *
  generalize (sumAll (fun k => wrap64 (F2 k * F1 k)) n) = M2 at *
  obtain ⟨hv1, hv2⟩ := hv
  subst hv1 hv2
  clear HV
  go_wp2_with (go_at_call 74; refine (divRound_any _ _ _ (by omega) (by omega) (by omega) (by omega)).mono ?_; rintro e w' ⟨rfl, rfl⟩)
  go_ret2
  exact ⟨rfl, hb1.trans (hb2.mono hb1.size)⟩
end Go.Proofs.Ytkoijgeacekeaaa
