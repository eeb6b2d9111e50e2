/- The contracts of IncomeBetween. -/
import Derived.Test.YtbhiobmkgiokiaaRentalV
import Derived.Test.YtbhiobmkgiokiaaSums
import Derived.Test.YtbhiobmkgiokiaaMore
namespace Go.Proofs.Ytbhiobmkgiokiaa
open Go.RowKit
attribute [local go_sem ↓] Go.wp_at_zero Go.wp_at_succ
set_option linter.unusedVariables false

/-- The months that are due. -/
def minI (a b : Int) : Int := if a < b then a else b

def monI (x2 day : Int) : Int := wrap64 (wrap64 ((wrap64 (day - x2)).tdiv 30) + 1)

def moV (x2 x3 day : Int) : Int := if day < x2 then 0 else minI x3 (monI x2 day)

def dueV (x2 x3 x4 day : Int) : Int := if day < x2 then 0 else wrap64 (x4 * minI x3 (monI x2 day))

set_option maxHeartbeats 400000 in
theorem l00Min_any (a b : Int) (w : World) :
    Calls Try.prog 127 #[.int .i64 a, .int .i64 b] w fun e w' => e = .returned (.int .i64 (minI a b)) ∧ w = w' := by
  by_cases h : a < b
  · have HF := Lib.hid (show minI a b = a by unfold minI; rw [if_pos h])
    go_enter Try.func127, Try.ntmps127
    go_wp2
    go_ret
    exact ⟨by rw [HF.out]; rfl, rfl⟩
  · have HF := Lib.hid (show minI a b = b by unfold minI; rw [if_neg h])
    go_enter Try.func127, Try.ntmps127
    go_wp2
    go_ret
    exact ⟨by rw [HF.out]; rfl, rfl⟩

set_option maxHeartbeats 1000000 in
theorem due_any (x0 : ByteArray) (x1 : ByteArray) (x2 : Int) (x3 : Int) (x4 : Int) (day : Int) (w : World) :
    Calls Try.prog 93 #[.agg #[.string x0, .string x1, .int .i64 x2, .int .i64 x3, .int .i64 x4], .int .i64 day] w fun e w' => e = .returned (.int .i64 (dueV x2 x3 x4 day)) ∧ w.alloc (.cells #[.string x0, .string x1, .int .i64 x2, .int .i64 x3, .int .i64 x4] 114) = w' := by
  by_cases h : day < x2
  · have HF := Lib.hid (show dueV x2 x3 x4 day = 0 by unfold dueV; rw [if_pos h])
    go_enter Try.func93, Try.ntmps93
    go_wp2
    go_ret
    exact ⟨by rw [HF.out]; rfl, rfl⟩
  · by_cases h2 : x3 < monI x2 day
    · have HF := Lib.hid (show dueV x2 x3 x4 day = wrap64 (x4 * x3) by unfold dueV minI; rw [if_neg h, if_pos h2])
      unfold monI at h2
      go_enter Try.func93, Try.ntmps93
      go_wp2
      all_goals (go_ret; exact ⟨by rw [HF.out]; first | rfl | (simp; omega), rfl⟩)
    · have HF := Lib.hid (show dueV x2 x3 x4 day = wrap64 (x4 * monI x2 day) by unfold dueV minI; rw [if_neg h, if_neg h2])
      unfold monI at h2
      go_enter Try.func93, Try.ntmps93
      go_wp2
      all_goals (go_ret; exact ⟨by rw [HF.out]; unfold monI; first | rfl | (simp; have h9 : x3 = wrap64 (wrap64 ((wrap64 (day - x2)).tdiv 30) + 1) := (by omega); rw [← h9]) | (simp; omega), rfl⟩)

set_option maxHeartbeats 1000000 in
theorem l21Due_any (b o : Nat) (x0 : ByteArray) (x1 : ByteArray) (x2 : Int) (x3 : Int) (x4 : Int) (day : Int) (w : World) (h0 : w.cell? ⟨b, o, none⟩ = some (.string x0)) (h1 : w.cell? ⟨b, o + 1, none⟩ = some (.string x1)) (h2 : w.cell? ⟨b, o + 2, none⟩ = some (.int .i64 x2)) (h3 : w.cell? ⟨b, o + 3, none⟩ = some (.int .i64 x3)) (h4 : w.cell? ⟨b, o + 4, none⟩ = some (.int .i64 x4)) :
    Calls Try.prog 89 #[.pointer (some ⟨b, o, none⟩), .int .i64 day] w fun e w' => e = .returned (.int .i64 (moV x2 x3 day)) ∧ ∃ q, w' = w.drewN q := by
  by_cases h : day < x2
  · have HF := Lib.hid (show moV x2 x3 day = 0 by unfold moV; rw [if_pos h])
    go_enter Try.func89, Try.ntmps89
    go_wp2
    go_ret
    exact ⟨by rw [HF.out]; rfl, 0, rfl⟩
  · have HF := Lib.hid (show moV x2 x3 day = minI x3 (monI x2 day) by unfold moV; rw [if_neg h])
    go_enter Try.func89, Try.ntmps89
    go_wp2
    go_big_quiet ((go_at_call 127; exact still_quiet (l00Min_any _ _ _)))
    go_wp2
    go_ret
    exact ⟨by rw [HF.out]; unfold monI; rfl, _, rfl⟩

/-- What the function hands back. -/
def incRes (n : Nat) (F0 : Nat → ByteArray) (F1 : Nat → ByteArray) (F2 : Nat → Int) (F3 : Nat → Int) (F4 : Nat → Int) (fr un : Int) : Int × Int := (if listRental n F0 F1 F2 F3 F4 = true then (if inB fr 0 100000 = true then (if inB un fr 100000 = true then (sumAll (fun k => wrap64 (F4 k * wrap64 (moV (F2 k) (F3 k) un - moV (F2 k) (F3 k) (wrap64 (fr - 1))))) n, 0) else (0, 2)) else (0, 2)) else (0, 1))

theorem mon_bd {x2 day : Int} (h1 : 0 ≤ x2) (h2 : x2 ≤ day) (h3 : day ≤ 100000) : monI x2 day = (day - x2) / 30 + 1 ∧ 1 ≤ (day - x2) / 30 + 1 ∧ (day - x2) / 30 + 1 ≤ 3335 := by
  have hq : (day - x2).tdiv 30 = (day - x2) / 30 := Int.tdiv_eq_ediv_of_nonneg (by omega)
  unfold monI
  rw [wrap64_id (z := day - x2) (by omega) (by omega), hq, wrap64_id (z := (day - x2) / 30) (by omega) (by omega), wrap64_id (by omega) (by omega)]
  omega

theorem mo_bd {x2 x3 day : Int} (h1 : 0 ≤ x2) (h3 : day ≤ 100000) (h4 : 1 ≤ x3) (h5 : x3 ≤ 120) : 0 ≤ moV x2 x3 day ∧ moV x2 x3 day ≤ 120 := by
  unfold moV
  split
  · omega
  · rename_i h
    have := mon_bd h1 (show x2 ≤ day by omega) h3
    unfold minI
    split <;> omega

theorem due_eq {x2 x3 x4 day : Int} (h1 : 0 ≤ x2) (h3 : day ≤ 100000) (h4 : 1 ≤ x3) (h5 : x3 ≤ 120) (h6 : 0 ≤ x4) (h7 : x4 ≤ 10000000) : dueV x2 x3 x4 day = x4 * moV x2 x3 day ∧ 0 ≤ x4 * moV x2 x3 day ∧ x4 * moV x2 x3 day ≤ 1200000000 := by
  have hb := mo_bd h1 h3 h4 h5
  have p1 : 0 ≤ x4 * moV x2 x3 day := Int.mul_nonneg h6 hb.1
  have p2 : x4 * moV x2 x3 day ≤ 10000000 * 120 := Int.mul_le_mul h7 hb.2 hb.1 (by omega)
  refine ⟨?_, p1, by omega⟩
  unfold dueV
  unfold moV at p1 p2 ⊢
  split
  · simp
  · rename_i h
    rw [if_neg h] at p1 p2
    exact wrap64_id (by omega) (by omega)

theorem inc_eq {n : Nat} {F0 : Nat → ByteArray} {F1 : Nat → ByteArray} {F2 : Nat → Int} {F3 : Nat → Int} {F4 : Nat → Int} {fr un : Int} (h : listRental n F0 F1 F2 F3 F4 = true) (h1 : inB fr 0 100000 = true) (h2 : inB un fr 100000 = true) : sumAll (fun k => wrap64 (F4 k * wrap64 (moV (F2 k) (F3 k) un - moV (F2 k) (F3 k) (wrap64 (fr - 1))))) n = sumAll (fun k => wrap64 (dueV (F2 k) (F3 k) (F4 k) un - dueV (F2 k) (F3 k) (F4 k) (wrap64 (fr - 1)))) n := by
  refine sumAll_congr fun k hk => ?_
  have hv := listRental_at h k hk
  unfold vRental at hv
  simp only [Bool.and_eq_true] at hv
  obtain ⟨_, _, v2, v3, v4⟩ := hv
  have v2 := inB_true v2
  have v3 := inB_true v3
  have v4 := inB_true v4
  have h1 := inB_true h1
  have h2 := inB_true h2
  rw [wrap64_id (z := fr - 1) (by omega) (by omega)]
  have a := due_eq (day := un) v2.1 (by omega) v3.1 v3.2 v4.1 v4.2
  have b := due_eq (day := fr - 1) v2.1 (by omega) v3.1 v3.2 v4.1 v4.2
  have ma := mo_bd (day := un) v2.1 (by omega) v3.1 v3.2
  have mb := mo_bd (day := fr - 1) v2.1 (by omega) v3.1 v3.2
  rw [a.1, b.1, wrap64_id (z := moV (F2 k) (F3 k) un - moV (F2 k) (F3 k) (fr - 1)) (by omega) (by omega), Int.mul_sub]

set_option maxHeartbeats 2000000 in
theorem specIncomeBetween_any (g n : Nat) (F0 : Nat → ByteArray) (F1 : Nat → ByteArray) (F2 : Nat → Int) (F3 : Nat → Int) (F4 : Nat → Int) (fr un : Int) (v1 : Int) (v2 : Int) (w : World) (t1 : TypeId) (hn : n ≤ 1048576) (h1 : w.rowIs g t1 (n * 5) (flat 5 (rowRental F0 F1 F2 F3 F4))) (hS0 : ∀ i, i < n → (F0 i).size ≤ maxLen) (hS1 : ∀ i, i < n → (F1 i).size ≤ maxLen)  (hv : incRes n F0 F1 F2 F3 F4 fr un = (v1, v2)) :
    Calls Try.prog 32 #[.slice (some ⟨g, 0, none⟩) n n, .int .i64 fr, .int .i64 un] w fun e w' => e = .returned (.tuple #[.int .i64 v1, .int .i64 v2]) ∧ Below w.heap.size w w' := by
  have hl1 := h1.lt
  have HR1 := Lib.hid (RdRental.of_row h1)
  have H1 := Lib.hid h1
  have HS0 := Lib.hid hS0
  have HS1 := Lib.hid hS1
  clear h1 hS0 hS1
  by_cases e0 : listRental n F0 F1 F2 F3 F4 = true
  case neg =>
    obtain ⟨rfl, rfl⟩ : v1 = 0 ∧ v2 = 1 := by unfold incRes at hv; rw [if_neg e0] at hv; simpa [eq_comm] using hv
    have e0n : (listRental n F0 F1 F2 F3 F4) = false := by simpa using e0
    clear hv e0
    go_enter Try.func32, Try.ntmps32
    go_wp2_with fail
    refine (OkRental_any _ _ F0 F1 F2 F3 F4 _ _ hn H1.out HS0.out HS1.out).mono ?_
    rintro e w1 ⟨rfl, hb1⟩
    go_wp2_with (first | (go_at_call 73; refine (l00In_any _ _ _ _).mono ?_; rintro e w' ⟨rfl, rfl⟩) | go_in)
    go_ret2
    exact ⟨rfl, hb1⟩
  by_cases e1 : inB fr 0 100000 = true
  case neg =>
    obtain ⟨rfl, rfl⟩ : v1 = 0 ∧ v2 = 2 := by unfold incRes at hv; rw [if_pos e0, if_neg e1] at hv; simpa [eq_comm] using hv
    have e1n : (inB fr 0 100000) = false := by simpa using e1
    clear hv e1
    go_enter Try.func32, Try.ntmps32
    go_wp2_with fail
    refine (OkRental_any _ _ F0 F1 F2 F3 F4 _ _ hn H1.out HS0.out HS1.out).mono ?_
    rintro e w1 ⟨rfl, hb1⟩
    go_wp2_with (first | (go_at_call 73; refine (l00In_any _ _ _ _).mono ?_; rintro e w' ⟨rfl, rfl⟩) | go_in)
    go_ret2
    exact ⟨rfl, hb1⟩
  by_cases e2 : inB un fr 100000 = true
  case neg =>
    obtain ⟨rfl, rfl⟩ : v1 = 0 ∧ v2 = 2 := by unfold incRes at hv; rw [if_pos e0, if_pos e1, if_neg e2] at hv; simpa [eq_comm] using hv
    have e2n : (inB un fr 100000) = false := by simpa using e2
    clear hv e2
    go_enter Try.func32, Try.ntmps32
    go_wp2_with fail
    refine (OkRental_any _ _ F0 F1 F2 F3 F4 _ _ hn H1.out HS0.out HS1.out).mono ?_
    rintro e w1 ⟨rfl, hb1⟩
    go_wp2_with (first | (go_at_call 73; refine (l00In_any _ _ _ _).mono ?_; rintro e w' ⟨rfl, rfl⟩) | go_in)
    go_ret2
    exact ⟨rfl, hb1⟩
  replace hv : (sumAll (fun k => wrap64 (F4 k * wrap64 (moV (F2 k) (F3 k) un - moV (F2 k) (F3 k) (wrap64 (fr - 1))))) n, 0) = (v1, v2) := by unfold incRes at hv; rw [if_pos e0, if_pos e1, if_pos e2] at hv; exact hv
  have HV := Lib.hid hv
  clear hv
  go_enter Try.func32, Try.ntmps32
  go_wp2_with fail
  refine (OkRental_any _ _ F0 F1 F2 F3 F4 _ _ hn H1.out HS0.out HS1.out).mono ?_
  rintro e w1 ⟨rfl, hb1⟩
  have H2 := Lib.hid (row_below H1.out hb1 H1.out.lt)
  go_wp2_with (first | (go_at_call 73; refine (l00In_any _ _ _ _).mono ?_; rintro e w' ⟨rfl, rfl⟩) | go_in)
  go_loopw [8, 9] (fun v i wr => ∃ (k : Nat), k ≤ n ∧ i = .int .i64 k ∧ v = .int .i64 (sumAll (fun k => wrap64 (F4 k * wrap64 (moV (F2 k) (F3 k) un - moV (F2 k) (F3 k) (wrap64 (fr - 1))))) k) ∧ Below w.heap.size w wr) (fun _ i _ => n - (intOf i).toNat)
  case atStart => exact ⟨0, Nat.zero_le _, rfl, rfl, hb1⟩
  case round =>
    obtain ⟨k, hk, rfl, rfl, hbel⟩ := hrel
    by_cases hlt : k < n
    · have hlti : (k : Int) < (n : Int) := by omega
      have hki : (0 : Int) ≤ (k : Int) := by omega
      obtain ⟨c0, c1, c2, c3, c4⟩ := HR1.out k hlt
      have hbc := bcell hbel
      rw [← hbc _ _ hl1] at c0 c1 c2 c3 c4
      simp only [Nat.zero_add] at c0 c1 c2 c3 c4
      clear hbc
      have HF := Lib.hid (sumAll_succ (fun k => wrap64 (F4 k * wrap64 (moV (F2 k) (F3 k) un - moV (F2 k) (F3 k) (wrap64 (fr - 1))))) k)
      go_wp2
      go_big_quiet ((go_at_call 89; exact Calls.quiet_of (l21Due_any _ _ _ _ _ _ _ _ _ c0 c1 c2 c3 c4)))
      go_wp2
      go_roundw
      case rel => first | exact ⟨k + 1, by omega, by go_num, by rw [HF.out], below_drewN hbel _⟩ | ((repeat apply Exists.intro); exact ⟨⟨k + 1, by omega, by go_num, by rw [HF.out], below_drewN hbel _⟩, rfl⟩)
      case measure => simp [intOf]; omega
    · obtain rfl : k = n := by omega
      have hv := HV.out
      simp only [Prod.mk.injEq] at hv
      go_wp2
      go_ret2
      exact ⟨by rw [← hv.1, ← hv.2]; rfl, hbel⟩

set_option maxHeartbeats 2000000 in
theorem implIncomeBetween_any (g n : Nat) (F0 : Nat → ByteArray) (F1 : Nat → ByteArray) (F2 : Nat → Int) (F3 : Nat → Int) (F4 : Nat → Int) (fr un : Int) (v1 : Int) (v2 : Int) (w : World) (t1 : TypeId) (hn : n ≤ 1048576) (h1 : w.rowIs g t1 (n * 5) (flat 5 (rowRental F0 F1 F2 F3 F4))) (hS0 : ∀ i, i < n → (F0 i).size ≤ maxLen) (hS1 : ∀ i, i < n → (F1 i).size ≤ maxLen)  (hv : incRes n F0 F1 F2 F3 F4 fr un = (v1, v2)) :
    Calls Try.prog 34 #[.slice (some ⟨g, 0, none⟩) n n, .int .i64 fr, .int .i64 un] w fun e w' => e = .returned (.tuple #[.int .i64 v1, .int .i64 v2]) ∧ Below w.heap.size w w' := by
  have hl1 := h1.lt
  have HR1 := Lib.hid (RdRental.of_row h1)
  have H1 := Lib.hid h1
  have HS0 := Lib.hid hS0
  have HS1 := Lib.hid hS1
  clear h1 hS0 hS1
  by_cases e0 : listRental n F0 F1 F2 F3 F4 = true
  case neg =>
    obtain ⟨rfl, rfl⟩ : v1 = 0 ∧ v2 = 1 := by unfold incRes at hv; rw [if_neg e0] at hv; simpa [eq_comm] using hv
    have e0n : (listRental n F0 F1 F2 F3 F4) = false := by simpa using e0
    clear hv e0
    go_enter Try.func34, Try.ntmps34
    go_wp2_with fail
    refine (ValidRental_any _ _ F0 F1 F2 F3 F4 _ _ hn H1.out HS0.out HS1.out).mono ?_
    rintro e w1 ⟨rfl, hb1⟩
    go_wp2_with (first | (go_at_call 77; refine (within_any _ _ _ _).mono ?_; rintro e w' ⟨rfl, rfl⟩) | go_in)
    go_ret2
    exact ⟨rfl, hb1⟩
  by_cases e1 : inB fr 0 100000 = true
  case neg =>
    obtain ⟨rfl, rfl⟩ : v1 = 0 ∧ v2 = 2 := by unfold incRes at hv; rw [if_pos e0, if_neg e1] at hv; simpa [eq_comm] using hv
    have e1n : (inB fr 0 100000) = false := by simpa using e1
    clear hv e1
    go_enter Try.func34, Try.ntmps34
    go_wp2_with fail
    refine (ValidRental_any _ _ F0 F1 F2 F3 F4 _ _ hn H1.out HS0.out HS1.out).mono ?_
    rintro e w1 ⟨rfl, hb1⟩
    go_wp2_with (first | (go_at_call 77; refine (within_any _ _ _ _).mono ?_; rintro e w' ⟨rfl, rfl⟩) | go_in)
    go_ret2
    exact ⟨rfl, hb1⟩
  by_cases e2 : inB un fr 100000 = true
  case neg =>
    obtain ⟨rfl, rfl⟩ : v1 = 0 ∧ v2 = 2 := by unfold incRes at hv; rw [if_pos e0, if_pos e1, if_neg e2] at hv; simpa [eq_comm] using hv
    have e2n : (inB un fr 100000) = false := by simpa using e2
    clear hv e2
    go_enter Try.func34, Try.ntmps34
    go_wp2_with fail
    refine (ValidRental_any _ _ F0 F1 F2 F3 F4 _ _ hn H1.out HS0.out HS1.out).mono ?_
    rintro e w1 ⟨rfl, hb1⟩
    go_wp2_with (first | (go_at_call 77; refine (within_any _ _ _ _).mono ?_; rintro e w' ⟨rfl, rfl⟩) | go_in)
    go_ret2
    exact ⟨rfl, hb1⟩
  replace hv : (sumAll (fun k => wrap64 (F4 k * wrap64 (moV (F2 k) (F3 k) un - moV (F2 k) (F3 k) (wrap64 (fr - 1))))) n, 0) = (v1, v2) := by unfold incRes at hv; rw [if_pos e0, if_pos e1, if_pos e2] at hv; exact hv
  have HV := Lib.hid hv
  clear hv
  go_enter Try.func34, Try.ntmps34
  go_wp2_with fail
  refine (ValidRental_any _ _ F0 F1 F2 F3 F4 _ _ hn H1.out HS0.out HS1.out).mono ?_
  rintro e w1 ⟨rfl, hb1⟩
  have H2 := Lib.hid (row_below H1.out hb1 H1.out.lt)
  have hv := HV.out
  rw [inc_eq e0 e1 e2] at hv
  replace HV := Lib.hid hv
  clear hv
  go_wp2_with (first | (go_at_call 77; refine (within_any _ _ _ _).mono ?_; rintro e w' ⟨rfl, rfl⟩) | go_in)
  go_loopw [8, 25] (fun v i wr => ∃ (k : Nat), k ≤ n ∧ i = .int .i64 k ∧ v = .int .i64 (sumAll (fun k => wrap64 (dueV (F2 k) (F3 k) (F4 k) un - dueV (F2 k) (F3 k) (F4 k) (wrap64 (fr - 1)))) k) ∧ Below w.heap.size w wr) (fun _ i _ => n - (intOf i).toNat)
  case atStart => exact ⟨0, Nat.zero_le _, rfl, rfl, hb1⟩
  case round =>
    obtain ⟨k, hk, rfl, rfl, hbel⟩ := hrel
    by_cases hlt : k < n
    · have hlti : (k : Int) < (n : Int) := by omega
      have hki : (0 : Int) ≤ (k : Int) := by omega
      obtain ⟨c0, c1, c2, c3, c4⟩ := HR1.out k hlt
      have hbc := bcell hbel
      rw [← hbc _ _ hl1] at c0 c1 c2 c3 c4
      simp only [Nat.zero_add] at c0 c1 c2 c3 c4
      clear hbc
      have HF := Lib.hid (sumAll_succ (fun k => wrap64 (dueV (F2 k) (F3 k) (F4 k) un - dueV (F2 k) (F3 k) (F4 k) (wrap64 (fr - 1)))) k)
      go_wp2
      have e0 := Ext.cell (W := wr.alloc (.cells #[.string (F0 k), .string (F1 k), .int .i64 (F2 k), .int .i64 (F3 k), .int .i64 (F4 k)] 114)) (b := wr.heap.size) (o := 0) (u := .string (F0 k)) (by simp) (by simp)
      have e1 := Ext.cell (W := wr.alloc (.cells #[.string (F0 k), .string (F1 k), .int .i64 (F2 k), .int .i64 (F3 k), .int .i64 (F4 k)] 114)) (b := wr.heap.size) (o := 1) (u := .string (F1 k)) (by simp) (by simp)
      have e2 := Ext.cell (W := wr.alloc (.cells #[.string (F0 k), .string (F1 k), .int .i64 (F2 k), .int .i64 (F3 k), .int .i64 (F4 k)] 114)) (b := wr.heap.size) (o := 2) (u := .int .i64 (F2 k)) (by simp) (by simp)
      have e3 := Ext.cell (W := wr.alloc (.cells #[.string (F0 k), .string (F1 k), .int .i64 (F2 k), .int .i64 (F3 k), .int .i64 (F4 k)] 114)) (b := wr.heap.size) (o := 3) (u := .int .i64 (F3 k)) (by simp) (by simp)
      have e4 := Ext.cell (W := wr.alloc (.cells #[.string (F0 k), .string (F1 k), .int .i64 (F2 k), .int .i64 (F3 k), .int .i64 (F4 k)] 114)) (b := wr.heap.size) (o := 4) (u := .int .i64 (F4 k)) (by simp) (by simp)
      refine wp_region_ext (by kernel_rfl) (by kernel_rfl) ?_
      repeat (go_big_quiet_step ((go_at_call 93; exact ext_one (due_any _ _ _ _ _ _ _))))
      refine wpQuiet_nil ?_
      rintro _ ⟨⟨W1, hW1⟩, rfl⟩
      have hB := below_ext hbel hW1
      clear hW1 
      go_wp2
      go_roundw
      case rel => first | exact ⟨k + 1, by omega, by go_num, by rw [HF.out], hB⟩ | ((repeat apply Exists.intro); exact ⟨⟨k + 1, by omega, by go_num, by rw [HF.out], hB⟩, rfl⟩)
      case measure => simp [intOf]; omega
    · obtain rfl : k = n := by omega
      have hv := HV.out
      simp only [Prod.mk.injEq] at hv
      go_wp2
      go_ret2
      exact ⟨by rw [← hv.1, ← hv.2]; rfl, hbel⟩
end Go.Proofs.Ytbhiobmkgiokiaa
