/- The contracts of StockWorth. -/
import Derived.Test.YtbhiobmkgiokiaaGoodV
import Derived.Test.YtbhiobmkgiokiaaSums
import Derived.Test.YtbhiobmkgiokiaaMore
namespace Go.Proofs.Ytbhiobmkgiokiaa
open Go.RowKit
attribute [local go_sem ↓] Go.wp_at_zero Go.wp_at_succ
set_option linter.unusedVariables false

/-- What the function hands back. -/
def worthRes (n : Nat) (F0 : Nat → ByteArray) (F1 : Nat → Int) (F2 : Nat → Int) (F3 : Nat → Int)  : Int × Int := (if listGood n F0 F1 F2 F3 = true then ((sumAll (fun k => wrap64 (F1 k * F3 k)) n), 0) else (0, 1))

set_option maxHeartbeats 2000000 in
theorem specStockWorth_any (g n : Nat) (F0 : Nat → ByteArray) (F1 : Nat → Int) (F2 : Nat → Int) (F3 : Nat → Int)  (v1 : Int) (v2 : Int) (w : World) (t1 : TypeId) (hn : n ≤ 1048576) (h1 : w.rowIs g t1 (n * 4) (flat 4 (rowGood F0 F1 F2 F3))) (hS0 : ∀ i, i < n → (F0 i).size ≤ maxLen)  (hv : worthRes n F0 F1 F2 F3  = (v1, v2)) :
    Calls Try.prog 37 #[.slice (some ⟨g, 0, none⟩) n n] w fun e w' => e = .returned (.tuple #[.int .i64 v1, .int .i64 v2]) ∧ Below w.heap.size w w' := by
  have hl1 := h1.lt
  have HR1 := Lib.hid (RdGood.of_row h1)
  have H1 := Lib.hid h1
  have HS0 := Lib.hid hS0
  clear h1 hS0
  by_cases e0 : listGood n F0 F1 F2 F3 = true
  case neg =>
    obtain ⟨rfl, rfl⟩ : v1 = 0 ∧ v2 = 1 := by unfold worthRes at hv; rw [if_neg e0] at hv; simpa [eq_comm] using hv
    have e0n : (listGood n F0 F1 F2 F3) = false := by simpa using e0
    clear hv e0
    go_enter Try.func37, Try.ntmps37
    go_wp2_with fail
    refine (OkGood_any _ _ F0 F1 F2 F3 _ _ hn H1.out HS0.out).mono ?_
    rintro e w1 ⟨rfl, hb1⟩
    go_wp2_with (first | (go_at_call 73; refine (l00In_any _ _ _ _).mono ?_; rintro e w' ⟨rfl, rfl⟩) | go_in)
    go_ret2
    exact ⟨rfl, hb1⟩
  replace hv : ((sumAll (fun k => wrap64 (F1 k * F3 k)) n), 0) = (v1, v2) := by unfold worthRes at hv; rw [if_pos e0] at hv; exact hv
  have HV := Lib.hid hv
  clear hv
  go_enter Try.func37, Try.ntmps37
  go_wp2_with fail
  refine (OkGood_any _ _ F0 F1 F2 F3 _ _ hn H1.out HS0.out).mono ?_
  rintro e w1 ⟨rfl, hb1⟩
  have H2 := Lib.hid (row_below H1.out hb1 H1.out.lt)
  go_wp2
  go_loopw [4, 5] (fun v i wr => ∃ (k : Nat), k ≤ n ∧ i = .int .i64 k ∧ v = .int .i64 (sumAll (fun k => wrap64 (F1 k * F3 k)) k) ∧ Below w.heap.size w wr) (fun _ i _ => n - (intOf i).toNat)
  case atStart => exact ⟨0, Nat.zero_le _, rfl, rfl, hb1⟩
  case round =>
    obtain ⟨k, hk, rfl, rfl, hbel⟩ := hrel
    by_cases hlt : k < n
    · have hlti : (k : Int) < (n : Int) := by omega
      have hki : (0 : Int) ≤ (k : Int) := by omega
      obtain ⟨c0, c1, c2, c3⟩ := HR1.out k hlt
      have hbc := bcell hbel
      rw [← hbc _ _ hl1] at c0 c1 c2 c3
      simp only [Nat.zero_add] at c0 c1 c2 c3
      clear hbc
      have HF := Lib.hid (sumAll_succ (fun k => wrap64 (F1 k * F3 k)) k)
      go_wp2
      go_big_quiet (fail)
      go_wp2
      go_roundw
      case rel => first | exact ⟨k + 1, by omega, by go_num, by rw [HF.out], below_drewN (hbel) _⟩ | ((repeat apply Exists.intro); exact ⟨⟨k + 1, by omega, by go_num, by rw [HF.out], below_drewN (hbel) _⟩, rfl⟩)
      case measure => simp [intOf]; omega
    · obtain rfl : k = n := by omega
      have hv := HV.out
      simp only [Prod.mk.injEq] at hv
      go_wp2
      go_ret2
      exact ⟨by rw [← hv.1, ← hv.2]; rfl, hbel⟩

set_option maxHeartbeats 2000000 in
theorem implStockWorth_any (g n : Nat) (F0 : Nat → ByteArray) (F1 : Nat → Int) (F2 : Nat → Int) (F3 : Nat → Int)  (v1 : Int) (v2 : Int) (w : World) (t1 : TypeId) (hn : n ≤ 1048576) (h1 : w.rowIs g t1 (n * 4) (flat 4 (rowGood F0 F1 F2 F3))) (hS0 : ∀ i, i < n → (F0 i).size ≤ maxLen)  (hv : worthRes n F0 F1 F2 F3  = (v1, v2)) :
    Calls Try.prog 39 #[.slice (some ⟨g, 0, none⟩) n n] w fun e w' => e = .returned (.tuple #[.int .i64 v1, .int .i64 v2]) ∧ Below w.heap.size w w' := by
  have hl1 := h1.lt
  have HR1 := Lib.hid (RdGood.of_row h1)
  have H1 := Lib.hid h1
  have HS0 := Lib.hid hS0
  clear h1 hS0
  by_cases e0 : listGood n F0 F1 F2 F3 = true
  case neg =>
    obtain ⟨rfl, rfl⟩ : v1 = 0 ∧ v2 = 1 := by unfold worthRes at hv; rw [if_neg e0] at hv; simpa [eq_comm] using hv
    have e0n : (listGood n F0 F1 F2 F3) = false := by simpa using e0
    clear hv e0
    go_enter Try.func39, Try.ntmps39
    go_wp2_with fail
    refine (ValidGood_any _ _ F0 F1 F2 F3 _ _ hn H1.out HS0.out).mono ?_
    rintro e w1 ⟨rfl, hb1⟩
    go_wp2_with (first | (go_at_call 77; refine (within_any _ _ _ _).mono ?_; rintro e w' ⟨rfl, rfl⟩) | go_in)
    go_ret2
    exact ⟨rfl, hb1⟩
  replace hv : ((sumAll (fun k => wrap64 (F1 k * F3 k)) n), 0) = (v1, v2) := by unfold worthRes at hv; rw [if_pos e0] at hv; exact hv
  have HV := Lib.hid hv
  clear hv
  go_enter Try.func39, Try.ntmps39
  go_wp2_with fail
  refine (ValidGood_any _ _ F0 F1 F2 F3 _ _ hn H1.out HS0.out).mono ?_
  rintro e w1 ⟨rfl, hb1⟩
  have H2 := Lib.hid (row_below H1.out hb1 H1.out.lt)
  go_wp2
  go_loopw [4, 12] (fun v i wr => ∃ (k : Nat), k ≤ n ∧ i = .int .i64 k ∧ v = .int .i64 (sumAll (fun k => wrap64 (F1 k * F3 k)) k) ∧ Below w.heap.size w wr) (fun _ i _ => n - (intOf i).toNat)
  case atStart => exact ⟨0, Nat.zero_le _, rfl, rfl, hb1⟩
  case round =>
    obtain ⟨k, hk, rfl, rfl, hbel⟩ := hrel
    by_cases hlt : k < n
    · have hlti : (k : Int) < (n : Int) := by omega
      have hki : (0 : Int) ≤ (k : Int) := by omega
      obtain ⟨c0, c1, c2, c3⟩ := HR1.out k hlt
      have hbc := bcell hbel
      rw [← hbc _ _ hl1] at c0 c1 c2 c3
      simp only [Nat.zero_add] at c0 c1 c2 c3
      clear hbc
      have HF := Lib.hid (sumAll_succ (fun k => wrap64 (F1 k * F3 k)) k)
      go_wp2
      go_roundw
      case rel => first | exact ⟨k + 1, by omega, by go_num, by rw [HF.out], hbel.alloc hbel.size _⟩ | ((repeat apply Exists.intro); exact ⟨⟨k + 1, by omega, by go_num, by rw [HF.out], hbel.alloc hbel.size _⟩, rfl⟩)
      case measure => simp [intOf]; omega
    · obtain rfl : k = n := by omega
      have hv := HV.out
      simp only [Prod.mk.injEq] at hv
      go_wp2
      go_ret2
      exact ⟨by rw [← hv.1, ← hv.2]; rfl, hbel⟩
end Go.Proofs.Ytbhiobmkgiokiaa
