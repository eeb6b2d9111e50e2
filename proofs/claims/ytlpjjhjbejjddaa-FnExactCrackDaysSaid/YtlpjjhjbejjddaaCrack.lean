/- The contracts of CrackDays. -/
import Derived.Test.YtlpjjhjbejjddaaDays
namespace Go.Proofs.Ytlpjjhjbejjddaa
open Go.RowKit
attribute [local go_sem ↓] Go.wp_at_zero Go.wp_at_succ
set_option linter.unusedVariables false

/-- The distance of two numbers. -/
def distV (a b : Int) : Int := if a < b then b - a else a - b

set_option maxHeartbeats 400000 in
theorem distance_any (a b : Int) (w : World) (h1 : 0 ≤ a) (h2 : a ≤ 1000000) (h3 : 0 ≤ b) (h4 : b ≤ 1000000) :
    Calls Try.prog 68 #[.int .i64 a, .int .i64 b] w fun e w' => e = .returned (.int .i64 (distV a b)) ∧ w = w' := by
  by_cases h : a < b
  · have HF := Lib.hid (show distV a b = b - a by unfold distV; rw [if_pos h])
    go_enter Try.func68, Try.ntmps68
    go_wp2
    all_goals (go_ret; exact ⟨by rw [HF.out]; first | rfl | (simp; omega), rfl⟩)
  · have HF := Lib.hid (show distV a b = a - b by unfold distV; rw [if_neg h])
    go_enter Try.func68, Try.ntmps68
    go_wp2
    all_goals (go_ret; exact ⟨by rw [HF.out]; first | rfl | (simp; omega), rfl⟩)

/-- What the function hands back. -/
def crRes (x0 : ByteArray) (x1 : Int) (x2 : Int) (x3 : Int) (hu mo da : Int) : Int × Int := (if vStack x0 x1 x2 x3 = true then (if inB hu 0 1000 = true then (if inB mo 0 1000 = true then (if inB da 0 4000 = true then (((countP (fun j : Nat => decide (mo < chV (moist x1 (evenV hu) x2 j) (evenV hu) x2) || decide (mo < -(chV (moist x1 (evenV hu) x2 j) (evenV hu) x2))) da.toNat : Nat) : Int), 0) else (0, 2)) else (0, 2)) else (0, 2)) else (0, 1))

theorem dist_ch {m c mo : Int} (h : 0 ≤ mo) : mo < distV (m + c) m ↔ (mo < c ∨ mo < -c) := by
  unfold distV
  split <;> omega

set_option maxHeartbeats 4000000 in
theorem implCrackDays_any (x0 : ByteArray) (x1 : Int) (x2 : Int) (x3 : Int) (hu mo da : Int) (v1 v2 : Int) (w : World) (hs0 : x0.size ≤ maxLen) (hv : crRes x0 x1 x2 x3 hu mo da = (v1, v2)) :
    Calls Try.prog 36 #[.agg #[.string x0, .int .i64 x1, .int .i64 x2, .int .i64 x3], .int .i64 hu, .int .i64 mo, .int .i64 da] w fun e w' => e = .returned (.tuple #[.int .i64 v1, .int .i64 v2]) ∧ Below w.heap.size w w' := by
  by_cases e0 : vStack x0 x1 x2 x3 = true
  case neg =>
    obtain ⟨rfl, rfl⟩ : v1 = 0 ∧ v2 = 1 := by unfold crRes at hv; rw [if_neg e0] at hv; simpa [eq_comm] using hv
    have e0n : vStack x0 x1 x2 x3 = false := by simpa using e0
    clear hv e0
    go_enter Try.func36, Try.ntmps36
    go_wp2_with (first | (go_at_call 79; refine (validStack_any _ _ _ _ _ hs0).mono ?_; rintro e w' ⟨rfl, rfl⟩) | (go_at_call 120; refine (within_any _ _ _ _).mono ?_; rintro e w' ⟨rfl, rfl⟩) | (go_at_call 80; go_in) | (go_at_call 84; go_in))
    go_ret2
    exact ⟨rfl, by repeat (first | exact below_new _ _ | exact (below_new _ _).alloc (by simp) _)⟩
  by_cases e1 : inB hu 0 1000 = true
  case neg =>
    obtain ⟨rfl, rfl⟩ : v1 = 0 ∧ v2 = 2 := by unfold crRes at hv; rw [if_pos e0, if_neg e1] at hv; simpa [eq_comm] using hv
    have e1n : inB hu 0 1000 = false := by simpa using e1
    clear hv e1
    go_enter Try.func36, Try.ntmps36
    go_wp2_with (first | (go_at_call 79; refine (validStack_any _ _ _ _ _ hs0).mono ?_; rintro e w' ⟨rfl, rfl⟩) | (go_at_call 120; refine (within_any _ _ _ _).mono ?_; rintro e w' ⟨rfl, rfl⟩) | (go_at_call 80; go_in) | (go_at_call 84; go_in))
    go_ret2
    exact ⟨rfl, by repeat (first | exact below_new _ _ | exact (below_new _ _).alloc (by simp) _)⟩
  by_cases e2 : inB mo 0 1000 = true
  case neg =>
    obtain ⟨rfl, rfl⟩ : v1 = 0 ∧ v2 = 2 := by unfold crRes at hv; rw [if_pos e0, if_pos e1, if_neg e2] at hv; simpa [eq_comm] using hv
    have e2n : inB mo 0 1000 = false := by simpa using e2
    clear hv e2
    go_enter Try.func36, Try.ntmps36
    go_wp2_with (first | (go_at_call 79; refine (validStack_any _ _ _ _ _ hs0).mono ?_; rintro e w' ⟨rfl, rfl⟩) | (go_at_call 120; refine (within_any _ _ _ _).mono ?_; rintro e w' ⟨rfl, rfl⟩) | (go_at_call 80; go_in) | (go_at_call 84; go_in))
    go_ret2
    exact ⟨rfl, by repeat (first | exact below_new _ _ | exact (below_new _ _).alloc (by simp) _)⟩
  by_cases e3 : inB da 0 4000 = true
  case neg =>
    obtain ⟨rfl, rfl⟩ : v1 = 0 ∧ v2 = 2 := by unfold crRes at hv; rw [if_pos e0, if_pos e1, if_pos e2, if_neg e3] at hv; simpa [eq_comm] using hv
    have e3n : inB da 0 4000 = false := by simpa using e3
    clear hv e3
    go_enter Try.func36, Try.ntmps36
    go_wp2_with (first | (go_at_call 79; refine (validStack_any _ _ _ _ _ hs0).mono ?_; rintro e w' ⟨rfl, rfl⟩) | (go_at_call 120; refine (within_any _ _ _ _).mono ?_; rintro e w' ⟨rfl, rfl⟩) | (go_at_call 80; go_in) | (go_at_call 84; go_in))
    go_ret2
    exact ⟨rfl, by repeat (first | exact below_new _ _ | exact (below_new _ _).alloc (by simp) _)⟩
  replace hv : (((countP (fun j : Nat => decide (mo < chV (moist x1 (evenV hu) x2 j) (evenV hu) x2) || decide (mo < -(chV (moist x1 (evenV hu) x2 j) (evenV hu) x2))) da.toNat : Nat) : Int), 0) = (v1, v2) := by unfold crRes at hv; rw [if_pos e0, if_pos e1, if_pos e2, if_pos e3] at hv; exact hv
  have HV := Lib.hid hv
  clear hv
  obtain ⟨⟨b1, b2⟩, ⟨b5, b6⟩⟩ := stack_bd e0
  obtain ⟨c1, c2⟩ := inB_true e1
  obtain ⟨o1, o2⟩ := inB_true e2
  obtain ⟨g1, g2⟩ := even_bd hu
  obtain ⟨d1, d2⟩ := inB_true e3
  obtain ⟨d, rfl⟩ := Int.eq_ofNat_of_zero_le d1
  have hv := HV.out
  rw [Int.toNat_natCast] at hv
  simp only [Prod.mk.injEq] at hv
  have HVV := Lib.hid hv
  clear hv HV
  go_enter Try.func36, Try.ntmps36
  go_wp2_with (first | (go_at_call 79; refine (validStack_any _ _ _ _ _ hs0).mono ?_; rintro e w' ⟨rfl, rfl⟩) | (go_at_call 120; refine (within_any _ _ _ _).mono ?_; rintro e w' ⟨rfl, rfl⟩) | (go_at_call 80; go_in) | (go_at_call 84; go_in))
  go_loopw [10, 29] (fun v i wr => ∃ k : Nat, k ≤ d ∧ i = .int .i64 k ∧ v = .int .i64 ((countP (fun j : Nat => decide (mo < chV (moist x1 (evenV hu) x2 j) (evenV hu) x2) || decide (mo < -(chV (moist x1 (evenV hu) x2 j) (evenV hu) x2))) k : Nat) : Int) ∧ wr.rowIs w.heap.size 37 4 (rowStack (fun _ => x0) (fun _ => moist x1 (evenV hu) x2 k) (fun _ => x2) (fun _ => x3) 0) ∧ Below w.heap.size w wr) (fun _ i _ => d - (intOf i).toNat)
  case atStart => exact ⟨0, by omega, rfl, rfl, (box_new x0 x1 x2 x3 w).alloc _, (below_new w _).alloc (by simp) _⟩
  case round =>
    obtain ⟨k, hk, rfl, rfl, hr, hbel⟩ := hrel
    obtain ⟨z0, z1, z2, z3⟩ := box_cells hr
    obtain ⟨m1, m2⟩ := moist_bd b1 b2 g1 g2 b5 b6 k
    have HR := Lib.hid hr
    clear hr
    by_cases hlt : k < d
    · have hk1 : (k : Int) < (d : Int) := by omega
      obtain ⟨⟨q1, q2⟩, ⟨q3, q4⟩⟩ := ch_bd m1 m2 g1 g2 b5 b6
      have hcl := count_le (fun j : Nat => decide (mo < chV (moist x1 (evenV hu) x2 j) (evenV hu) x2) || decide (mo < -(chV (moist x1 (evenV hu) x2 j) (evenV hu) x2))) k
      have HM := Lib.hid (moist_succ x1 (evenV hu) x2 k)
      have HD := Lib.hid (dist_ch (m := moist x1 (evenV hu) x2 k) (c := chV (moist x1 (evenV hu) x2 k) (evenV hu) x2) o1)
      by_cases hp : mo < distV (moist x1 (evenV hu) x2 k + chV (moist x1 (evenV hu) x2 k) (evenV hu) x2) (moist x1 (evenV hu) x2 k)
      · have HN := Lib.hid (count_yes (p := (fun j : Nat => decide (mo < chV (moist x1 (evenV hu) x2 j) (evenV hu) x2) || decide (mo < -(chV (moist x1 (evenV hu) x2 j) (evenV hu) x2)))) (k := k) (by have := HD.out.1 hp; simpa using this))
        go_wp2_with fail
        refine (after_one _ _ _ _ _ _ m1 m2 b5 b6 c1 c2).mono ?_
        rintro e w2 ⟨rfl, hb2⟩
        have hr2 := row_below HR.out hb2 HR.out.lt
        have hB := hbel.trans (hb2.mono hbel.size)
        clear z0 z1 z2 z3 hb2 HR
        obtain ⟨_, z1, _, _⟩ := box_cells hr2
        have f1 := hr2.frozen 1
        have HR := Lib.hid hr2
        clear hr2
        go_wp2_with (go_at_call 68; refine (distance_any _ _ _ (by omega) (by omega) (by omega) (by omega)).mono ?_; rintro e w' ⟨rfl, rfl⟩)
        go_roundw
        case rel => first | exact ⟨k + 1, by omega, by go_num, by rw [HN.out]; go_num, by rw [HM.out]; exact box_put _ HR.out, hB.setCell (by simp) _⟩ | ((repeat apply Exists.intro); exact ⟨⟨k + 1, by omega, by go_num, by rw [HN.out]; go_num, by rw [HM.out]; exact box_put _ HR.out, hB.setCell (by simp) _⟩, rfl⟩)
        case measure => simp [intOf]; omega
      · have HN := Lib.hid (count_no (p := (fun j : Nat => decide (mo < chV (moist x1 (evenV hu) x2 j) (evenV hu) x2) || decide (mo < -(chV (moist x1 (evenV hu) x2 j) (evenV hu) x2)))) (k := k) (by have := fun h => hp (HD.out.2 h); simpa using this))
        have hpn : decide (mo < distV (moist x1 (evenV hu) x2 k + chV (moist x1 (evenV hu) x2 k) (evenV hu) x2) (moist x1 (evenV hu) x2 k)) = false := by simpa using hp
        go_wp2_with fail
        refine (after_one _ _ _ _ _ _ m1 m2 b5 b6 c1 c2).mono ?_
        rintro e w2 ⟨rfl, hb2⟩
        have hr2 := row_below HR.out hb2 HR.out.lt
        have hB := hbel.trans (hb2.mono hbel.size)
        clear z0 z1 z2 z3 hb2 HR
        obtain ⟨_, z1, _, _⟩ := box_cells hr2
        have f1 := hr2.frozen 1
        have HR := Lib.hid hr2
        clear hr2
        go_wp2_with (go_at_call 68; refine (distance_any _ _ _ (by omega) (by omega) (by omega) (by omega)).mono ?_; rintro e w' ⟨rfl, rfl⟩)
        go_roundw
        case rel => first | exact ⟨k + 1, by omega, by go_num, by rw [HN.out], by rw [HM.out]; exact box_put _ HR.out, hB.setCell (by simp) _⟩ | ((repeat apply Exists.intro); exact ⟨⟨k + 1, by omega, by go_num, by rw [HN.out], by rw [HM.out]; exact box_put _ HR.out, hB.setCell (by simp) _⟩, rfl⟩)
        case measure => simp [intOf]; omega
    · obtain rfl : k = d := by omega
      clear z0 z1 z2 z3
      go_wp2
      go_ret2
      exact ⟨by rw [← HVV.out.1, ← HVV.out.2]; rfl, hbel⟩

set_option maxHeartbeats 4000000 in
theorem specCrackDays_any (x0 : ByteArray) (x1 : Int) (x2 : Int) (x3 : Int) (hu mo da : Int) (v1 v2 : Int) (w : World) (hs0 : x0.size ≤ maxLen) (hv : crRes x0 x1 x2 x3 hu mo da = (v1, v2)) :
    Calls Try.prog 35 #[.agg #[.string x0, .int .i64 x1, .int .i64 x2, .int .i64 x3], .int .i64 hu, .int .i64 mo, .int .i64 da] w fun e w' => e = .returned (.tuple #[.int .i64 v1, .int .i64 v2]) ∧ Below w.heap.size w w' := by
  have Z0 := Lib.hid (show (w.alloc (.cells #[.string x0, .int .i64 x1, .int .i64 x2, .int .i64 x3] 37)).cell? ⟨w.heap.size, 0, none⟩ = some (.string x0) by simp)
  have Z1 := Lib.hid (show (w.alloc (.cells #[.string x0, .int .i64 x1, .int .i64 x2, .int .i64 x3] 37)).cell? ⟨w.heap.size, 0 + 1, none⟩ = some (.int .i64 x1) by simp)
  have Z2 := Lib.hid (show (w.alloc (.cells #[.string x0, .int .i64 x1, .int .i64 x2, .int .i64 x3] 37)).cell? ⟨w.heap.size, 0 + 2, none⟩ = some (.int .i64 x2) by simp)
  have Z3 := Lib.hid (show (w.alloc (.cells #[.string x0, .int .i64 x1, .int .i64 x2, .int .i64 x3] 37)).cell? ⟨w.heap.size, 0 + 3, none⟩ = some (.int .i64 x3) by simp)
  by_cases e0 : vStack x0 x1 x2 x3 = true
  case neg =>
    obtain ⟨rfl, rfl⟩ : v1 = 0 ∧ v2 = 1 := by unfold crRes at hv; rw [if_neg e0] at hv; simpa [eq_comm] using hv
    have e0n : vStack x0 x1 x2 x3 = false := by simpa using e0
    clear hv e0
    go_enter Try.func35, Try.ntmps35
    go_wp2_with (first | (go_at_call 75; refine (oneStack_any w.heap.size 0 x0 x1 x2 x3 _ hs0 Z0.out Z1.out Z2.out Z3.out).mono ?_; rintro e w' ⟨rfl, rfl⟩) | (go_at_call 124; refine (l00In_any _ _ _ _).mono ?_; rintro e w' ⟨rfl, rfl⟩) | (go_at_call 76; go_in) | (go_at_call 82; go_in))
    go_ret2
    exact ⟨rfl, by repeat (first | exact below_new _ _ | exact (below_new _ _).alloc (by simp) _)⟩
  by_cases e1 : inB hu 0 1000 = true
  case neg =>
    obtain ⟨rfl, rfl⟩ : v1 = 0 ∧ v2 = 2 := by unfold crRes at hv; rw [if_pos e0, if_neg e1] at hv; simpa [eq_comm] using hv
    have e1n : inB hu 0 1000 = false := by simpa using e1
    clear hv e1
    go_enter Try.func35, Try.ntmps35
    go_wp2_with (first | (go_at_call 75; refine (oneStack_any w.heap.size 0 x0 x1 x2 x3 _ hs0 Z0.out Z1.out Z2.out Z3.out).mono ?_; rintro e w' ⟨rfl, rfl⟩) | (go_at_call 124; refine (l00In_any _ _ _ _).mono ?_; rintro e w' ⟨rfl, rfl⟩) | (go_at_call 76; go_in) | (go_at_call 82; go_in))
    go_ret2
    exact ⟨rfl, by repeat (first | exact below_new _ _ | exact (below_new _ _).alloc (by simp) _)⟩
  by_cases e2 : inB mo 0 1000 = true
  case neg =>
    obtain ⟨rfl, rfl⟩ : v1 = 0 ∧ v2 = 2 := by unfold crRes at hv; rw [if_pos e0, if_pos e1, if_neg e2] at hv; simpa [eq_comm] using hv
    have e2n : inB mo 0 1000 = false := by simpa using e2
    clear hv e2
    go_enter Try.func35, Try.ntmps35
    go_wp2_with (first | (go_at_call 75; refine (oneStack_any w.heap.size 0 x0 x1 x2 x3 _ hs0 Z0.out Z1.out Z2.out Z3.out).mono ?_; rintro e w' ⟨rfl, rfl⟩) | (go_at_call 124; refine (l00In_any _ _ _ _).mono ?_; rintro e w' ⟨rfl, rfl⟩) | (go_at_call 76; go_in) | (go_at_call 82; go_in))
    go_ret2
    exact ⟨rfl, by repeat (first | exact below_new _ _ | exact (below_new _ _).alloc (by simp) _)⟩
  by_cases e3 : inB da 0 4000 = true
  case neg =>
    obtain ⟨rfl, rfl⟩ : v1 = 0 ∧ v2 = 2 := by unfold crRes at hv; rw [if_pos e0, if_pos e1, if_pos e2, if_neg e3] at hv; simpa [eq_comm] using hv
    have e3n : inB da 0 4000 = false := by simpa using e3
    clear hv e3
    go_enter Try.func35, Try.ntmps35
    go_wp2_with (first | (go_at_call 75; refine (oneStack_any w.heap.size 0 x0 x1 x2 x3 _ hs0 Z0.out Z1.out Z2.out Z3.out).mono ?_; rintro e w' ⟨rfl, rfl⟩) | (go_at_call 124; refine (l00In_any _ _ _ _).mono ?_; rintro e w' ⟨rfl, rfl⟩) | (go_at_call 76; go_in) | (go_at_call 82; go_in))
    go_ret2
    exact ⟨rfl, by repeat (first | exact below_new _ _ | exact (below_new _ _).alloc (by simp) _)⟩
  replace hv : (((countP (fun j : Nat => decide (mo < chV (moist x1 (evenV hu) x2 j) (evenV hu) x2) || decide (mo < -(chV (moist x1 (evenV hu) x2 j) (evenV hu) x2))) da.toNat : Nat) : Int), 0) = (v1, v2) := by unfold crRes at hv; rw [if_pos e0, if_pos e1, if_pos e2, if_pos e3] at hv; exact hv
  have HV := Lib.hid hv
  clear hv
  obtain ⟨⟨b1, b2⟩, ⟨b5, b6⟩⟩ := stack_bd e0
  obtain ⟨c1, c2⟩ := inB_true e1
  obtain ⟨o1, o2⟩ := inB_true e2
  obtain ⟨g1, g2⟩ := even_bd hu
  obtain ⟨d1, d2⟩ := inB_true e3
  obtain ⟨d, rfl⟩ := Int.eq_ofNat_of_zero_le d1
  have hv := HV.out
  rw [Int.toNat_natCast] at hv
  simp only [Prod.mk.injEq] at hv
  have HVV := Lib.hid hv
  clear hv HV
  go_enter Try.func35, Try.ntmps35
  go_wp2_with (first | (go_at_call 75; refine (oneStack_any w.heap.size 0 x0 x1 x2 x3 _ hs0 Z0.out Z1.out Z2.out Z3.out).mono ?_; rintro e w' ⟨rfl, rfl⟩) | (go_at_call 124; refine (l00In_any _ _ _ _).mono ?_; rintro e w' ⟨rfl, rfl⟩) | (go_at_call 76; go_in) | (go_at_call 82; go_in))
  go_loopw [10, 11, 12] (fun u v i wr => ∃ k : Nat, k ≤ d ∧ i = .int .i64 k ∧ u = .int .i64 (moist x1 (evenV hu) x2 k) ∧ v = .int .i64 ((countP (fun j : Nat => decide (mo < chV (moist x1 (evenV hu) x2 j) (evenV hu) x2) || decide (mo < -(chV (moist x1 (evenV hu) x2 j) (evenV hu) x2))) k : Nat) : Int) ∧ Below (w.alloc (.cells #[.string x0, .int .i64 x1, .int .i64 x2, .int .i64 x3] 37)).heap.size (w.alloc (.cells #[.string x0, .int .i64 x1, .int .i64 x2, .int .i64 x3] 37)) wr) (fun _ _ i _ => d - (intOf i).toNat)
  case atStart => exact ⟨0, by omega, rfl, rfl, rfl, Below.refl _ _⟩
  case round =>
    obtain ⟨k, hk, rfl, rfl, rfl, hbel⟩ := hrel
    have hlw : w.heap.size < wr.heap.size := Nat.lt_of_lt_of_le (by simp) hbel.size
    have z0 : wr.cell? ⟨w.heap.size, 0, none⟩ = some (.string x0) := (bcell hbel _ _ (by simp)).trans (by simp)
    have z1 : wr.cell? ⟨w.heap.size, 1, none⟩ = some (.int .i64 x1) := (bcell hbel _ _ (by simp)).trans (by simp)
    have z2 : wr.cell? ⟨w.heap.size, 2, none⟩ = some (.int .i64 x2) := (bcell hbel _ _ (by simp)).trans (by simp)
    have z3 : wr.cell? ⟨w.heap.size, 3, none⟩ = some (.int .i64 x3) := (bcell hbel _ _ (by simp)).trans (by simp)
    obtain ⟨m1, m2⟩ := moist_bd b1 b2 g1 g2 b5 b6 k
    by_cases hlt : k < d
    · have hk1 : (k : Int) < (d : Int) := by omega
      obtain ⟨⟨q1, q2⟩, ⟨q3, q4⟩⟩ := ch_bd m1 m2 g1 g2 b5 b6
      have hcl := count_le (fun j : Nat => decide (mo < chV (moist x1 (evenV hu) x2 j) (evenV hu) x2) || decide (mo < -(chV (moist x1 (evenV hu) x2 j) (evenV hu) x2))) k
      have HM := Lib.hid (moist_succ x1 (evenV hu) x2 k)
      by_cases hp1 : mo < chV (moist x1 (evenV hu) x2 k) (evenV hu) x2
      · have HN := Lib.hid (count_yes (p := (fun j : Nat => decide (mo < chV (moist x1 (evenV hu) x2 j) (evenV hu) x2) || decide (mo < -(chV (moist x1 (evenV hu) x2 j) (evenV hu) x2)))) (k := k) (by simp; omega))
        go_wp2
        have y2 := Ext.cell (W := wr) (b := w.heap.size) (o := 2) (u := .int .i64 x2) z2 hlw
        refine wp_region_ext (by kernel_rfl) (by kernel_rfl) ?_
        repeat (go_big_quiet_step ((first | (go_at_call 78; exact ext_call (l04Even_any _ _ c1 c2)) | (go_at_call 77; exact ext_same (l04Change_any _ _ _ _ m1 m2 g1 g2 b5 b6)))))
        refine wpQuiet_nil ?_
        intro W1 hx
        obtain ⟨x, hx⟩ := hx
        have hW1 := x.h
        rw [← hx] at hW1
        clear hx x y2
        have hB := hbel.trans (hW1.mono hbel.size)
        clear hW1 z0 z1 z2 z3
        go_wp2
        go_roundw
        case rel => first | exact ⟨k + 1, by omega, by go_num, by rw [HM.out], by rw [HN.out]; go_num, hB⟩ | ((repeat apply Exists.intro); exact ⟨⟨k + 1, by omega, by go_num, by rw [HM.out], by rw [HN.out]; go_num, hB⟩, rfl⟩)
        case measure => simp [intOf]; omega
      · by_cases hp2 : mo < -(chV (moist x1 (evenV hu) x2 k) (evenV hu) x2)
        · have h1n : decide (mo < chV (moist x1 (evenV hu) x2 k) (evenV hu) x2) = false := by simpa using hp1
          have HN := Lib.hid (count_yes (p := (fun j : Nat => decide (mo < chV (moist x1 (evenV hu) x2 j) (evenV hu) x2) || decide (mo < -(chV (moist x1 (evenV hu) x2 j) (evenV hu) x2)))) (k := k) (by simp; omega))
          go_wp2
          have y2 := Ext.cell (W := wr) (b := w.heap.size) (o := 2) (u := .int .i64 x2) z2 hlw
          refine wp_region_ext (by kernel_rfl) (by kernel_rfl) ?_
          repeat (go_big_quiet_step ((first | (go_at_call 78; exact ext_call (l04Even_any _ _ c1 c2)) | (go_at_call 77; exact ext_same (l04Change_any _ _ _ _ m1 m2 g1 g2 b5 b6)))))
          refine wpQuiet_nil ?_
          intro W1 hx
          obtain ⟨x, hx⟩ := hx
          have hW1 := x.h
          rw [← hx] at hW1
          clear hx x y2
          have hB := hbel.trans (hW1.mono hbel.size)
          clear hW1 z0 z1 z2 z3
          go_wp2
          go_roundw
          case rel => first | exact ⟨k + 1, by omega, by go_num, by rw [HM.out], by rw [HN.out]; go_num, hB⟩ | ((repeat apply Exists.intro); exact ⟨⟨k + 1, by omega, by go_num, by rw [HM.out], by rw [HN.out]; go_num, hB⟩, rfl⟩)
          case measure => simp [intOf]; omega
        · have h1n : decide (mo < chV (moist x1 (evenV hu) x2 k) (evenV hu) x2) = false := by simpa using hp1
          have h2n : decide (mo < -(chV (moist x1 (evenV hu) x2 k) (evenV hu) x2)) = false := by simpa using hp2
          have HN := Lib.hid (count_no (p := (fun j : Nat => decide (mo < chV (moist x1 (evenV hu) x2 j) (evenV hu) x2) || decide (mo < -(chV (moist x1 (evenV hu) x2 j) (evenV hu) x2)))) (k := k) (by simp; omega))
          go_wp2
          have y2 := Ext.cell (W := wr) (b := w.heap.size) (o := 2) (u := .int .i64 x2) z2 hlw
          refine wp_region_ext (by kernel_rfl) (by kernel_rfl) ?_
          repeat (go_big_quiet_step ((first | (go_at_call 78; exact ext_call (l04Even_any _ _ c1 c2)) | (go_at_call 77; exact ext_same (l04Change_any _ _ _ _ m1 m2 g1 g2 b5 b6)))))
          refine wpQuiet_nil ?_
          intro W1 hx
          obtain ⟨x, hx⟩ := hx
          have hW1 := x.h
          rw [← hx] at hW1
          clear hx x y2
          have hB := hbel.trans (hW1.mono hbel.size)
          clear hW1 z0 z1 z2 z3
          go_wp2
          go_roundw
          case rel => first | exact ⟨k + 1, by omega, by go_num, by rw [HM.out], by rw [HN.out], hB⟩ | ((repeat apply Exists.intro); exact ⟨⟨k + 1, by omega, by go_num, by rw [HM.out], by rw [HN.out], hB⟩, rfl⟩)
          case measure => simp [intOf]; omega
    · obtain rfl : k = d := by omega
      clear z0 z1 z2 z3
      go_wp2
      go_ret2
      exact ⟨by rw [← HVV.out.1, ← HVV.out.2]; rfl, (below_new w _).trans (hbel.mono (by simp))⟩
end Go.Proofs.Ytlpjjhjbejjddaa
