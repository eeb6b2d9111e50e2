/- The contracts of the functions about the lengths of ribs. -/
import Derived.Test.YtkoijgeacekeaaaRibV
import Derived.Test.YtkoijgeacekeaaaSums
import Derived.Test.YtkoijgeacekeaaaMore
namespace Go.Proofs.Ytkoijgeacekeaaa
open Go.RowKit
attribute [local go_sem ↓] Go.wp_at_zero Go.wp_at_succ
set_option linter.unusedVariables false

set_option maxHeartbeats 2000000 in
theorem l06Long_any (g n : Nat) (F0 : Nat → ByteArray) (F1 : Nat → Int) (F2 : Nat → Int)  (w : World) (t1 : TypeId) (hn : n ≤ 1048576) (h1 : w.rowIs g t1 (n * 3) (flat 3 (rowRib F0 F1 F2)))   :
    Calls Try.prog 78 #[.slice (some ⟨g, 0, none⟩) n n] w fun e w' => e = .returned (.int .i64 (sumAll (fun k => F1 k) n)) ∧ Below w.heap.size w w' := by
  have hl1 := h1.lt
  have HR1 := Lib.hid (RdRib.of_row h1)
  have H1 := Lib.hid h1
  clear h1 
  go_enter Try.func78, Try.ntmps78
  go_wp2
  go_loopw [3, 4] (fun v i wr => ∃ (k : Nat), k ≤ n ∧ i = .int .i64 k ∧ v = .int .i64 (sumAll (fun k => F1 k) k) ∧ Below w.heap.size w wr) (fun _ i _ => n - (intOf i).toNat)
  case atStart => exact ⟨0, Nat.zero_le _, rfl, rfl, Below.refl _ _⟩
  case round =>
    obtain ⟨k, hk, rfl, rfl, hbel⟩ := hrel
    by_cases hlt : k < n
    · have hlti : (k : Int) < (n : Int) := by omega
      have hki : (0 : Int) ≤ (k : Int) := by omega
      obtain ⟨c0, c1, c2⟩ := HR1.out k hlt
      have hbc := bcell hbel
      rw [← hbc _ _ hl1] at c0 c1 c2
      simp only [Nat.zero_add] at c0 c1 c2
      clear hbc
      have HF := Lib.hid (sumAll_succ (fun k => F1 k) k)
      go_wp2
      go_roundw
      case rel => first | exact ⟨k + 1, by omega, by go_num, by rw [HF.out], hbel⟩ | ((repeat apply Exists.intro); exact ⟨⟨k + 1, by omega, by go_num, by rw [HF.out], hbel⟩, rfl⟩)
      case measure => simp [intOf]; omega
    · obtain rfl : k = n := by omega
      go_wp2
      go_ret
      exact ⟨rfl, hbel⟩

set_option maxHeartbeats 2000000 in
theorem ribsLength_any (g n : Nat) (F0 : Nat → ByteArray) (F1 : Nat → Int) (F2 : Nat → Int)  (w : World) (t1 : TypeId) (hn : n ≤ 1048576) (h1 : w.rowIs g t1 (n * 3) (flat 3 (rowRib F0 F1 F2)))   :
    Calls Try.prog 81 #[.slice (some ⟨g, 0, none⟩) n n] w fun e w' => e = .returned (.int .i64 (sumAll (fun k => F1 k) n)) ∧ Below w.heap.size w w' := by
  have hl1 := h1.lt
  have HR1 := Lib.hid (RdRib.of_row h1)
  have H1 := Lib.hid h1
  clear h1 
  go_enter Try.func81, Try.ntmps81
  go_wp2
  go_loopw [3, 8] (fun v i wr => ∃ (k : Nat), k ≤ n ∧ i = .int .i64 k ∧ v = .int .i64 (sumAll (fun k => F1 k) k) ∧ Below w.heap.size w wr) (fun _ i _ => n - (intOf i).toNat)
  case atStart => exact ⟨0, Nat.zero_le _, rfl, rfl, Below.refl _ _⟩
  case round =>
    obtain ⟨k, hk, rfl, rfl, hbel⟩ := hrel
    by_cases hlt : k < n
    · have hlti : (k : Int) < (n : Int) := by omega
      have hki : (0 : Int) ≤ (k : Int) := by omega
      obtain ⟨c0, c1, c2⟩ := HR1.out k hlt
      have hbc := bcell hbel
      rw [← hbc _ _ hl1] at c0 c1 c2
      simp only [Nat.zero_add] at c0 c1 c2
      clear hbc
      have HF := Lib.hid (sumAll_succ (fun k => F1 k) k)
      go_wp2
      go_roundw
      case rel => first | exact ⟨k + 1, by omega, by go_num, by rw [HF.out], hbel.alloc hbel.size _⟩ | ((repeat apply Exists.intro); exact ⟨⟨k + 1, by omega, by go_num, by rw [HF.out], hbel.alloc hbel.size _⟩, rfl⟩)
      case measure => simp [intOf]; omega
    · obtain rfl : k = n := by omega
      go_wp2
      go_ret
      exact ⟨rfl, hbel⟩

/-- What the function hands back. -/
def ribRes (n : Nat) (F0 : Nat → ByteArray) (F1 : Nat → Int) (F2 : Nat → Int)  : Int × Int := (if listRib n F0 F1 F2 = true then ((sumAll (fun k => F1 k) n), 0) else (0, 1))

set_option maxHeartbeats 2000000 in
theorem specRibsLength_any (g n : Nat) (F0 : Nat → ByteArray) (F1 : Nat → Int) (F2 : Nat → Int)  (v1 : Int) (v2 : Int) (w : World) (t1 : TypeId) (hn : n ≤ 1048576) (h1 : w.rowIs g t1 (n * 3) (flat 3 (rowRib F0 F1 F2))) (hS0 : ∀ i, i < n → (F0 i).size ≤ maxLen)  (hv : ribRes n F0 F1 F2  = (v1, v2)) :
    Calls Try.prog 40 #[.slice (some ⟨g, 0, none⟩) n n] w fun e w' => e = .returned (.tuple #[.int .i64 v1, .int .i64 v2]) ∧ Below w.heap.size w w' := by
  have hl1 := h1.lt
  have HR1 := Lib.hid (RdRib.of_row h1)
  have H1 := Lib.hid h1
  have HS0 := Lib.hid hS0
  clear h1 hS0
  by_cases e0 : listRib n F0 F1 F2 = true
  case neg =>
    obtain ⟨rfl, rfl⟩ : v1 = 0 ∧ v2 = 1 := by unfold ribRes at hv; rw [if_neg e0] at hv; simpa [eq_comm] using hv
    have e0n : (listRib n F0 F1 F2) = false := by simpa using e0
    clear hv e0
    go_enter Try.func40, Try.ntmps40
    go_wp2_with fail
    refine (OkRib_any _ _ F0 F1 F2 _ _ hn H1.out HS0.out).mono ?_
    rintro e w1 ⟨rfl, hb1⟩
    go_wp2_with (first | (go_at_call 94; refine (l00In_any _ _ _ _).mono ?_; rintro e w' ⟨rfl, rfl⟩) | go_in)
    go_ret2
    exact ⟨rfl, hb1⟩
  replace hv : ((sumAll (fun k => F1 k) n), 0) = (v1, v2) := by unfold ribRes at hv; rw [if_pos e0] at hv; exact hv
  have HV := Lib.hid hv
  clear hv
  go_enter Try.func40, Try.ntmps40
  go_wp2_with fail
  refine (OkRib_any _ _ F0 F1 F2 _ _ hn H1.out HS0.out).mono ?_
  rintro e w1 ⟨rfl, hb1⟩
  have H2 := Lib.hid (row_below H1.out hb1 H1.out.lt)
  go_wp2_with (first | (go_at_call 94; refine (l00In_any _ _ _ _).mono ?_; rintro e w' ⟨rfl, rfl⟩) | (go_at_call 78; refine (l06Long_any _ _ F0 F1 F2 _ _ hn H2.out).mono ?_; rintro e w2 ⟨rfl, hb2⟩) | go_in)
  have hv := HV.out
  simp only [Prod.mk.injEq] at hv
  go_ret2
  exact ⟨by rw [← hv.1, ← hv.2]; rfl, hb1.trans (hb2.mono hb1.size)⟩

set_option maxHeartbeats 2000000 in
theorem implRibsLength_any (g n : Nat) (F0 : Nat → ByteArray) (F1 : Nat → Int) (F2 : Nat → Int)  (v1 : Int) (v2 : Int) (w : World) (t1 : TypeId) (hn : n ≤ 1048576) (h1 : w.rowIs g t1 (n * 3) (flat 3 (rowRib F0 F1 F2))) (hS0 : ∀ i, i < n → (F0 i).size ≤ maxLen)  (hv : ribRes n F0 F1 F2  = (v1, v2)) :
    Calls Try.prog 42 #[.slice (some ⟨g, 0, none⟩) n n] w fun e w' => e = .returned (.tuple #[.int .i64 v1, .int .i64 v2]) ∧ Below w.heap.size w w' := by
  have hl1 := h1.lt
  have HR1 := Lib.hid (RdRib.of_row h1)
  have H1 := Lib.hid h1
  have HS0 := Lib.hid hS0
  clear h1 hS0
  by_cases e0 : listRib n F0 F1 F2 = true
  case neg =>
    obtain ⟨rfl, rfl⟩ : v1 = 0 ∧ v2 = 1 := by unfold ribRes at hv; rw [if_neg e0] at hv; simpa [eq_comm] using hv
    have e0n : (listRib n F0 F1 F2) = false := by simpa using e0
    clear hv e0
    go_enter Try.func42, Try.ntmps42
    go_wp2_with fail
    refine (ValidRib_any _ _ F0 F1 F2 _ _ hn H1.out HS0.out).mono ?_
    rintro e w1 ⟨rfl, hb1⟩
    go_wp2_with (first | (go_at_call 61; refine (within_any _ _ _ _).mono ?_; rintro e w' ⟨rfl, rfl⟩) | go_in)
    go_ret2
    exact ⟨rfl, hb1⟩
  replace hv : ((sumAll (fun k => F1 k) n), 0) = (v1, v2) := by unfold ribRes at hv; rw [if_pos e0] at hv; exact hv
  have HV := Lib.hid hv
  clear hv
  go_enter Try.func42, Try.ntmps42
  go_wp2_with fail
  refine (ValidRib_any _ _ F0 F1 F2 _ _ hn H1.out HS0.out).mono ?_
  rintro e w1 ⟨rfl, hb1⟩
  have H2 := Lib.hid (row_below H1.out hb1 H1.out.lt)
  go_wp2_with (first | (go_at_call 61; refine (within_any _ _ _ _).mono ?_; rintro e w' ⟨rfl, rfl⟩) | (go_at_call 81; refine (ribsLength_any _ _ F0 F1 F2 _ _ hn H2.out).mono ?_; rintro e w2 ⟨rfl, hb2⟩) | go_in)
  have hv := HV.out
  simp only [Prod.mk.injEq] at hv
  go_ret2
  exact ⟨by rw [← hv.1, ← hv.2]; rfl, hb1.trans (hb2.mono hb1.size)⟩

/-- What the function hands back. -/
def gapRes (n : Nat) (F0 : Nat → ByteArray) (F1 : Nat → Int) (F2 : Nat → Int) (r : Int) : Int × Int := (if listRib n F0 F1 F2 = true then (if inB r 0 100000 = true then (wrap64 (r - (sumAll (fun k => F1 k) n)), 0) else (0, 2)) else (0, 1))

set_option maxHeartbeats 2000000 in
theorem specMouldGap_any (g n : Nat) (F0 : Nat → ByteArray) (F1 : Nat → Int) (F2 : Nat → Int) (r : Int) (v1 : Int) (v2 : Int) (w : World) (t1 : TypeId) (hn : n ≤ 1048576) (h1 : w.rowIs g t1 (n * 3) (flat 3 (rowRib F0 F1 F2))) (hS0 : ∀ i, i < n → (F0 i).size ≤ maxLen)  (hv : gapRes n F0 F1 F2 r = (v1, v2)) :
    Calls Try.prog 44 #[.slice (some ⟨g, 0, none⟩) n n, .int .i64 r] w fun e w' => e = .returned (.tuple #[.int .i64 v1, .int .i64 v2]) ∧ Below w.heap.size w w' := by
  have hl1 := h1.lt
  have HR1 := Lib.hid (RdRib.of_row h1)
  have H1 := Lib.hid h1
  have HS0 := Lib.hid hS0
  clear h1 hS0
  by_cases e0 : listRib n F0 F1 F2 = true
  case neg =>
    obtain ⟨rfl, rfl⟩ : v1 = 0 ∧ v2 = 1 := by unfold gapRes at hv; rw [if_neg e0] at hv; simpa [eq_comm] using hv
    have e0n : (listRib n F0 F1 F2) = false := by simpa using e0
    clear hv e0
    go_enter Try.func44, Try.ntmps44
    go_wp2_with fail
    refine (OkRib_any _ _ F0 F1 F2 _ _ hn H1.out HS0.out).mono ?_
    rintro e w1 ⟨rfl, hb1⟩
    go_wp2_with (first | (go_at_call 94; refine (l00In_any _ _ _ _).mono ?_; rintro e w' ⟨rfl, rfl⟩) | go_in)
    go_ret2
    exact ⟨rfl, hb1⟩
  by_cases e1 : inB r 0 100000 = true
  case neg =>
    obtain ⟨rfl, rfl⟩ : v1 = 0 ∧ v2 = 2 := by unfold gapRes at hv; rw [if_pos e0, if_neg e1] at hv; simpa [eq_comm] using hv
    have e1n : (inB r 0 100000) = false := by simpa using e1
    clear hv e1
    go_enter Try.func44, Try.ntmps44
    go_wp2_with fail
    refine (OkRib_any _ _ F0 F1 F2 _ _ hn H1.out HS0.out).mono ?_
    rintro e w1 ⟨rfl, hb1⟩
    go_wp2_with (first | (go_at_call 94; refine (l00In_any _ _ _ _).mono ?_; rintro e w' ⟨rfl, rfl⟩) | go_in)
    go_ret2
    exact ⟨rfl, hb1⟩
  replace hv : (wrap64 (r - (sumAll (fun k => F1 k) n)), 0) = (v1, v2) := by unfold gapRes at hv; rw [if_pos e0, if_pos e1] at hv; exact hv
  have HV := Lib.hid hv
  clear hv
  go_enter Try.func44, Try.ntmps44
  go_wp2_with fail
  refine (OkRib_any _ _ F0 F1 F2 _ _ hn H1.out HS0.out).mono ?_
  rintro e w1 ⟨rfl, hb1⟩
  have H2 := Lib.hid (row_below H1.out hb1 H1.out.lt)
  go_wp2_with (first | (go_at_call 94; refine (l00In_any _ _ _ _).mono ?_; rintro e w' ⟨rfl, rfl⟩) | (go_at_call 78; refine (l06Long_any _ _ F0 F1 F2 _ _ hn H2.out).mono ?_; rintro e w2 ⟨rfl, hb2⟩) | go_in)
  have hv := HV.out
  simp only [Prod.mk.injEq] at hv
  go_ret2
  exact ⟨by rw [← hv.1, ← hv.2]; rfl, hb1.trans (hb2.mono hb1.size)⟩

set_option maxHeartbeats 2000000 in
theorem implMouldGap_any (g n : Nat) (F0 : Nat → ByteArray) (F1 : Nat → Int) (F2 : Nat → Int) (r : Int) (v1 : Int) (v2 : Int) (w : World) (t1 : TypeId) (hn : n ≤ 1048576) (h1 : w.rowIs g t1 (n * 3) (flat 3 (rowRib F0 F1 F2))) (hS0 : ∀ i, i < n → (F0 i).size ≤ maxLen)  (hv : gapRes n F0 F1 F2 r = (v1, v2)) :
    Calls Try.prog 45 #[.slice (some ⟨g, 0, none⟩) n n, .int .i64 r] w fun e w' => e = .returned (.tuple #[.int .i64 v1, .int .i64 v2]) ∧ Below w.heap.size w w' := by
  have hl1 := h1.lt
  have HR1 := Lib.hid (RdRib.of_row h1)
  have H1 := Lib.hid h1
  have HS0 := Lib.hid hS0
  clear h1 hS0
  by_cases e0 : listRib n F0 F1 F2 = true
  case neg =>
    obtain ⟨rfl, rfl⟩ : v1 = 0 ∧ v2 = 1 := by unfold gapRes at hv; rw [if_neg e0] at hv; simpa [eq_comm] using hv
    have e0n : (listRib n F0 F1 F2) = false := by simpa using e0
    clear hv e0
    go_enter Try.func45, Try.ntmps45
    go_wp2_with fail
    refine (ValidRib_any _ _ F0 F1 F2 _ _ hn H1.out HS0.out).mono ?_
    rintro e w1 ⟨rfl, hb1⟩
    go_wp2_with (first | (go_at_call 61; refine (within_any _ _ _ _).mono ?_; rintro e w' ⟨rfl, rfl⟩) | go_in)
    go_ret2
    exact ⟨rfl, hb1⟩
  by_cases e1 : inB r 0 100000 = true
  case neg =>
    obtain ⟨rfl, rfl⟩ : v1 = 0 ∧ v2 = 2 := by unfold gapRes at hv; rw [if_pos e0, if_neg e1] at hv; simpa [eq_comm] using hv
    have e1n : (inB r 0 100000) = false := by simpa using e1
    clear hv e1
    go_enter Try.func45, Try.ntmps45
    go_wp2_with fail
    refine (ValidRib_any _ _ F0 F1 F2 _ _ hn H1.out HS0.out).mono ?_
    rintro e w1 ⟨rfl, hb1⟩
    go_wp2_with (first | (go_at_call 61; refine (within_any _ _ _ _).mono ?_; rintro e w' ⟨rfl, rfl⟩) | go_in)
    go_ret2
    exact ⟨rfl, hb1⟩
  replace hv : (wrap64 (r - (sumAll (fun k => F1 k) n)), 0) = (v1, v2) := by unfold gapRes at hv; rw [if_pos e0, if_pos e1] at hv; exact hv
  have HV := Lib.hid hv
  clear hv
  go_enter Try.func45, Try.ntmps45
  go_wp2_with fail
  refine (ValidRib_any _ _ F0 F1 F2 _ _ hn H1.out HS0.out).mono ?_
  rintro e w1 ⟨rfl, hb1⟩
  have H2 := Lib.hid (row_below H1.out hb1 H1.out.lt)
  go_wp2_with (first | (go_at_call 61; refine (within_any _ _ _ _).mono ?_; rintro e w' ⟨rfl, rfl⟩) | (go_at_call 81; refine (ribsLength_any _ _ F0 F1 F2 _ _ hn H2.out).mono ?_; rintro e w2 ⟨rfl, hb2⟩) | go_in)
  have hv := HV.out
  simp only [Prod.mk.injEq] at hv
  go_ret2
  exact ⟨by rw [← hv.1, ← hv.2]; rfl, hb1.trans (hb2.mono hb1.size)⟩
end Go.Proofs.Ytkoijgeacekeaaa
