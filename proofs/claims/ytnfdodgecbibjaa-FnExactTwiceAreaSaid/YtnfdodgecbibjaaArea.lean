/- The contracts of TwiceArea. -/
import Derived.Test.YtnfdodgecbibjaaArcL
import Derived.Test.YtnfdodgecbibjaaSums
import Derived.Test.YtnfdodgecbibjaaMore
namespace Go.Proofs.Ytnfdodgecbibjaa
open Go.RowKit
attribute [local go_sem ↓] Go.wp_at_zero Go.wp_at_succ
set_option linter.unusedVariables false

set_option maxHeartbeats 2000000 in
theorem l05Area_any (g n : Nat) (F0 : Nat → Int) (F1 : Nat → Int) (F2 : Nat → Int) (F3 : Nat → Int) (F4 : Nat → Int) (F5 : Nat → Int)  (w : World) (t1 : TypeId) (hn : n ≤ 1048576) (h1 : w.rowIs g t1 (n * 6) (flat 6 (rowArc F0 F1 F2 F3 F4 F5)))   :
    Calls Try.prog 27 #[.slice (some ⟨g, 0, none⟩) n n] w fun e w' => e = .returned (.int .i64 (sumAll (fun k => wrap64 (wrap64 (F2 k * F5 k) - wrap64 (F4 k * F3 k))) n)) ∧ Below w.heap.size w w' := by
  have hl1 := h1.lt
  have HR1 := Lib.hid (RdArc.of_row h1)
  have H1 := Lib.hid h1
  clear h1 
  go_enter Try.func27, Try.ntmps27
  go_wp2
  go_loopw [3, 4] (fun v i wr => ∃ (k : Nat), k ≤ n ∧ i = .int .i64 k ∧ v = .int .i64 (sumAll (fun k => wrap64 (wrap64 (F2 k * F5 k) - wrap64 (F4 k * F3 k))) k) ∧ Below w.heap.size w wr) (fun _ i _ => n - (intOf i).toNat)
  case atStart => exact ⟨0, Nat.zero_le _, rfl, rfl, Below.refl _ _⟩
  case round =>
    obtain ⟨k, hk, rfl, rfl, hbel⟩ := hrel
    by_cases hlt : k < n
    · have hlti : (k : Int) < (n : Int) := by omega
      have hki : (0 : Int) ≤ (k : Int) := by omega
      obtain ⟨c0, c1, c2, c3, c4, c5⟩ := HR1.out k hlt
      have hbc := bcell hbel
      rw [← hbc _ _ hl1] at c0 c1 c2 c3 c4 c5
      simp only [Nat.zero_add] at c0 c1 c2 c3 c4 c5
      clear hbc
      have c3b : wr.cell? ⟨g, k * 6 + 2 + 1, none⟩ = some (.int .i64 (F3 k)) := c3
      have c5b : wr.cell? ⟨g, k * 6 + 4 + 1, none⟩ = some (.int .i64 (F5 k)) := c5
      have HF := Lib.hid (sumAll_succ (fun k => wrap64 (wrap64 (F2 k * F5 k) - wrap64 (F4 k * F3 k))) k)
      go_wp2
      go_big_quiet (fail)
      go_wp2
      go_roundw
      case rel => first | exact ⟨k + 1, by omega, by go_num, by rw [HF.out], below_drewN (hbel) _⟩ | ((repeat apply Exists.intro); exact ⟨⟨k + 1, by omega, by go_num, by rw [HF.out], below_drewN (hbel) _⟩, rfl⟩)
      case measure => simp [intOf]; omega
    · obtain rfl : k = n := by omega
      go_wp2
      go_ret
      exact ⟨rfl, hbel⟩

/-- What the function hands back. -/
def areaRes (n : Nat) (F0 : Nat → Int) (F1 : Nat → Int) (F2 : Nat → Int) (F3 : Nat → Int) (F4 : Nat → Int) (F5 : Nat → Int)  : Int × Int := (if listArc n F0 F1 F2 F3 F4 F5 = true then ((sumAll (fun k => wrap64 (wrap64 (F2 k * F5 k) - wrap64 (F4 k * F3 k))) n), 0) else (0, 1))

set_option maxHeartbeats 2000000 in
theorem specTwiceArea_any (g n : Nat) (F0 : Nat → Int) (F1 : Nat → Int) (F2 : Nat → Int) (F3 : Nat → Int) (F4 : Nat → Int) (F5 : Nat → Int)  (v1 : Int) (v2 : Int) (w : World) (t1 : TypeId) (hn : n ≤ 1048576) (h1 : w.rowIs g t1 (n * 6) (flat 6 (rowArc F0 F1 F2 F3 F4 F5)))   (hv : areaRes n F0 F1 F2 F3 F4 F5  = (v1, v2)) :
    Calls Try.prog 9 #[.slice (some ⟨g, 0, none⟩) n n] w fun e w' => e = .returned (.tuple #[.int .i64 v1, .int .i64 v2]) ∧ Below w.heap.size w w' := by
  have hl1 := h1.lt
  have HR1 := Lib.hid (RdArc.of_row h1)
  have H1 := Lib.hid h1
  clear h1 
  by_cases e0 : listArc n F0 F1 F2 F3 F4 F5 = true
  case neg =>
    obtain ⟨rfl, rfl⟩ : v1 = 0 ∧ v2 = 1 := by unfold areaRes at hv; rw [if_neg e0] at hv; simpa [eq_comm] using hv
    have e0n : (listArc n F0 F1 F2 F3 F4 F5) = false := by simpa using e0
    clear hv e0
    go_enter Try.func9, Try.ntmps9
    go_wp2_with fail
    refine (OkArc_any _ _ F0 F1 F2 F3 F4 F5 _ _ hn H1.out ).mono ?_
    rintro e w1 ⟨rfl, hb1⟩
    go_wp2_with (first | (go_at_call 49; refine (l00In_any _ _ _ _).mono ?_; rintro e w' ⟨rfl, rfl⟩) | go_in)
    go_ret2
    exact ⟨rfl, hb1⟩
  replace hv : ((sumAll (fun k => wrap64 (wrap64 (F2 k * F5 k) - wrap64 (F4 k * F3 k))) n), 0) = (v1, v2) := by unfold areaRes at hv; rw [if_pos e0] at hv; exact hv
  have HV := Lib.hid hv
  clear hv
  go_enter Try.func9, Try.ntmps9
  go_wp2_with fail
  refine (OkArc_any _ _ F0 F1 F2 F3 F4 F5 _ _ hn H1.out ).mono ?_
  rintro e w1 ⟨rfl, hb1⟩
  have H2 := Lib.hid (row_below H1.out hb1 H1.out.lt)
  go_wp2_with (first | (go_at_call 27; refine (l05Area_any _ _ F0 F1 F2 F3 F4 F5 _ _ hn H2.out).mono ?_; rintro e w2 ⟨rfl, hb2⟩) | go_in)
  have hv := HV.out
  simp only [Prod.mk.injEq] at hv
  go_ret2
  exact ⟨by rw [← hv.1, ← hv.2]; rfl, hb1.trans (hb2.mono hb1.size)⟩

set_option maxHeartbeats 2000000 in
theorem implTwiceArea_any (g n : Nat) (F0 : Nat → Int) (F1 : Nat → Int) (F2 : Nat → Int) (F3 : Nat → Int) (F4 : Nat → Int) (F5 : Nat → Int)  (v1 : Int) (v2 : Int) (w : World) (t1 : TypeId) (hn : n ≤ 1048576) (h1 : w.rowIs g t1 (n * 6) (flat 6 (rowArc F0 F1 F2 F3 F4 F5)))   (hv : areaRes n F0 F1 F2 F3 F4 F5  = (v1, v2)) :
    Calls Try.prog 11 #[.slice (some ⟨g, 0, none⟩) n n] w fun e w' => e = .returned (.tuple #[.int .i64 v1, .int .i64 v2]) ∧ Below w.heap.size w w' := by
  have hl1 := h1.lt
  have HR1 := Lib.hid (RdArc.of_row h1)
  have H1 := Lib.hid h1
  clear h1 
  by_cases e0 : listArc n F0 F1 F2 F3 F4 F5 = true
  case neg =>
    obtain ⟨rfl, rfl⟩ : v1 = 0 ∧ v2 = 1 := by unfold areaRes at hv; rw [if_neg e0] at hv; simpa [eq_comm] using hv
    have e0n : (listArc n F0 F1 F2 F3 F4 F5) = false := by simpa using e0
    clear hv e0
    go_enter Try.func11, Try.ntmps11
    go_wp2_with fail
    refine (ValidArcs_any _ _ F0 F1 F2 F3 F4 F5 _ _ hn H1.out ).mono ?_
    rintro e w1 ⟨rfl, hb1⟩
    go_wp2_with (first | (go_at_call 43; refine (within_any _ _ _ _).mono ?_; rintro e w' ⟨rfl, rfl⟩) | go_in)
    go_ret2
    exact ⟨rfl, hb1⟩
  replace hv : ((sumAll (fun k => wrap64 (wrap64 (F2 k * F5 k) - wrap64 (F4 k * F3 k))) n), 0) = (v1, v2) := by unfold areaRes at hv; rw [if_pos e0] at hv; exact hv
  have HV := Lib.hid hv
  clear hv
  go_enter Try.func11, Try.ntmps11
  go_wp2_with fail
  refine (ValidArcs_any _ _ F0 F1 F2 F3 F4 F5 _ _ hn H1.out ).mono ?_
  rintro e w1 ⟨rfl, hb1⟩
  have H2 := Lib.hid (row_below H1.out hb1 H1.out.lt)
  go_wp2
  go_loopw [4, 12] (fun v i wr => ∃ (k : Nat), k ≤ n ∧ i = .int .i64 k ∧ v = .int .i64 (sumAll (fun k => wrap64 (wrap64 (F2 k * F5 k) - wrap64 (F4 k * F3 k))) k) ∧ Below w.heap.size w wr) (fun _ i _ => n - (intOf i).toNat)
  case atStart => exact ⟨0, Nat.zero_le _, rfl, rfl, hb1⟩
  case round =>
    obtain ⟨k, hk, rfl, rfl, hbel⟩ := hrel
    by_cases hlt : k < n
    · have hlti : (k : Int) < (n : Int) := by omega
      have hki : (0 : Int) ≤ (k : Int) := by omega
      obtain ⟨c0, c1, c2, c3, c4, c5⟩ := HR1.out k hlt
      have hbc := bcell hbel
      rw [← hbc _ _ hl1] at c0 c1 c2 c3 c4 c5
      simp only [Nat.zero_add] at c0 c1 c2 c3 c4 c5
      clear hbc
      have c3b : wr.cell? ⟨g, k * 6 + 2 + 1, none⟩ = some (.int .i64 (F3 k)) := c3
      have c5b : wr.cell? ⟨g, k * 6 + 4 + 1, none⟩ = some (.int .i64 (F5 k)) := c5
      have HF := Lib.hid (sumAll_succ (fun k => wrap64 (wrap64 (F2 k * F5 k) - wrap64 (F4 k * F3 k))) k)
      go_wp2
      go_roundw
      case rel => first | exact ⟨k + 1, by omega, by go_num, by rw [HF.out], hbel.alloc hbel.size _⟩ | ((repeat apply Exists.intro); exact ⟨⟨k + 1, by omega, by go_num, by rw [HF.out], hbel.alloc hbel.size _⟩, rfl⟩)
      case measure => simp [intOf]; omega
    · obtain rfl : k = n := by omega
      have hv := HV.out
      simp only [Prod.mk.injEq] at hv
      go_wp2
      go_ret2
      exact ⟨by rw [← hv.1, ← hv.2]; rfl, hbel⟩
end Go.Proofs.Ytnfdodgecbibjaa
