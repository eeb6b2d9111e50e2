/- The contracts of TurnFor. -/
import Derived.Test.YtbhiobmkgiokiaaPegV
import Derived.Test.YtbhiobmkgiokiaaMore
import Derived.Test.YtbhiobmkgiokiaaDiv
namespace Go.Proofs.Ytbhiobmkgiokiaa
open Go.RowKit
attribute [local go_sem ↓] Go.wp_at_zero Go.wp_at_succ
set_option linter.unusedVariables false

theorem quiet_add_eq {P : Program} {f : FuncId} {args : Array Value} {w : World} {a n : Nat} {v : Value}
    (h : Calls P f args (w.drewN (a + n)) fun e w' => e = .returned v ∧ w.drewN (a + n) = w') : Calls P f args (w.drewN (a + n)) fun e w'' => e = .returned v ∧ ∃ m, w'' = w.drewN (a + m) :=
  h.mono fun _ _ h2 => ⟨h2.1, n, h2.2.symm⟩

/-- The greater of 0 and a number. -/
def pos0 (d : Int) : Int := if 0 < d then d else 0

/-- How far a peg goes into a hole. -/
def wayV (x1 x3 hole : Int) : Int := pos0 (hole - x1) * x3

theorem pos_yes {d : Int} (h : 0 < d) : pos0 d = d := by unfold pos0; rw [if_pos h]

theorem pos_no {d : Int} (h : ¬ 0 < d) : pos0 d = 0 := by unfold pos0; rw [if_neg h]

theorem way_bd {x1 x2 x3 hole : Int} (b1 : 20 ≤ x1) (b2 : x1 ≤ 200) (b3 : 100 ≤ x2) (b4 : x2 ≤ 1000) (b5 : 10 ≤ x3) (b6 : x3 ≤ 100) (b7 : 20 ≤ hole) (b8 : hole ≤ 200) : 0 ≤ wayV x1 x3 hole ∧ wayV x1 x3 hole ≤ 18000 := by
  unfold wayV pos0
  split
  · have h1 : 0 ≤ (hole - x1) * x3 := Int.mul_nonneg (by omega) (by omega)
    have h2 : (hole - x1) * x3 ≤ 180 * 100 := Int.mul_le_mul (by omega) (by omega) (by omega) (by omega)
    omega
  · simp

theorem way_le {d x : Int} (h1 : 0 ≤ d) (h2 : d ≤ 180) (h3 : 0 ≤ x) (h4 : x ≤ 100) : d * x ≤ 18000 := by
  have h : d * x ≤ 180 * 100 := Int.mul_le_mul h2 h4 h3 (by omega)
  omega

set_option maxHeartbeats 1000000 in
theorem wayIn_any (x0 : ByteArray) (x1 : Int) (x2 : Int) (x3 : Int) (hole : Int) (w : World) (b1 : 20 ≤ x1) (b2 : x1 ≤ 200) (b3 : 100 ≤ x2) (b4 : x2 ≤ 1000) (b5 : 10 ≤ x3) (b6 : x3 ≤ 100) (b7 : 20 ≤ hole) (b8 : hole ≤ 200) :
    Calls Try.prog 125 #[.agg #[.string x0, .int .i64 x1, .int .i64 x2, .int .i64 x3], .int .i64 hole] w fun e w' => e = .returned (.tuple #[.int .i64 (wayV x1 x3 hole), .bool (decide (wayV x1 x3 hole ≤ x2))]) ∧ Below w.heap.size w w' := by
  by_cases hd : 0 < hole - x1
  · have HW := Lib.hid (show wayV x1 x3 hole = (hole - x1) * x3 by unfold wayV; rw [pos_yes hd])
    have p1 : 0 ≤ (hole - x1) * x3 := Int.mul_nonneg (by omega) (by omega)
    have p2 : (hole - x1) * x3 ≤ 18000 := way_le (by omega) (by omega) (by omega) (by omega)
    go_enter Try.func125, Try.ntmps125
    go_wp2
    go_big_quiet (fail)
    go_wp2
    go_ret2
    exact ⟨by rw [HW.out]; rfl, below_drewN (below_new _ _) _⟩
  · have HW := Lib.hid (show wayV x1 x3 hole = 0 by unfold wayV; rw [pos_no hd]; simp)
    have hd2 : hole - x1 ≤ 0 := by omega
    go_enter Try.func125, Try.ntmps125
    go_wp2
    go_big_quiet (fail)
    go_wp2
    go_ret2
    exact ⟨by rw [HW.out]; rfl, below_drewN (below_new _ _) _⟩

set_option maxHeartbeats 1000000 in
theorem at_any (x0 : ByteArray) (x1 : Int) (x2 : Int) (x3 : Int) (way : Int) (w : World) (b1 : 20 ≤ x1) (b2 : x1 ≤ 200) (b5 : 10 ≤ x3) (b6 : x3 ≤ 100) (b7 : 0 ≤ way) (b8 : way ≤ 18000) :
    Calls Try.prog 85 #[.agg #[.string x0, .int .i64 x1, .int .i64 x2, .int .i64 x3], .int .i64 way] w fun e w' => e = .returned (.int .i64 (x1 + way / x3)) ∧ Below w.heap.size w w' := by
  have q1 : 0 ≤ way / x3 := Int.ediv_nonneg b7 (by omega)
  have q2 : way / x3 ≤ way := Int.ediv_le_self x3 b7
  go_enter Try.func85, Try.ntmps85
  go_wp2
  go_big_quiet (fail)
  go_wp2
  go_ret
  exact ⟨rfl, below_drewN (below_new _ _) _⟩

/-- What WayIn hands back for a peg and a hole that are valid. -/
def winV (x1 x2 x3 hole : Int) : Int × Int := if wayV x1 x3 hole ≤ x2 then (wayV x1 x3 hole, 0) else (0, 3)

set_option maxHeartbeats 1000000 in
theorem WayIn_any (x0 : ByteArray) (x1 : Int) (x2 : Int) (x3 : Int) (hole v1 v2 : Int) (w : World) (hs0 : x0.size ≤ maxLen) (hvp : vPeg x0 x1 x2 x3 = true) (hh : inB hole 20 200 = true) (b1 : 20 ≤ x1) (b2 : x1 ≤ 200) (b3 : 100 ≤ x2) (b4 : x2 ≤ 1000) (b5 : 10 ≤ x3) (b6 : x3 ≤ 100) (b7 : 20 ≤ hole) (b8 : hole ≤ 200) (hv : winV x1 x2 x3 hole = (v1, v2)) :
    Calls Try.prog 84 #[.agg #[.string x0, .int .i64 x1, .int .i64 x2, .int .i64 x3], .int .i64 hole] w fun e w' => e = .returned (.tuple #[.int .i64 v1, .int .i64 v2]) ∧ Below w.heap.size w w' := by
  by_cases hw : wayV x1 x3 hole ≤ x2
  · obtain ⟨rfl, rfl⟩ : v1 = wayV x1 x3 hole ∧ v2 = 0 := by unfold winV at hv; rw [if_pos hw] at hv; simpa [eq_comm] using hv
    clear hv
    go_enter Try.func84, Try.ntmps84
    go_wp2_with (first | (go_at_call 82; refine (validPeg_any _ _ _ _ _ hs0).mono ?_; rintro e w' ⟨rfl, rfl⟩) | (go_at_call 77; refine (within_any _ _ _ _).mono ?_; rintro e w' ⟨rfl, rfl⟩) | (go_at_call 83; go_in))
    refine (wayIn_any _ _ _ _ _ _ b1 b2 b3 b4 b5 b6 b7 b8).mono ?_
    rintro e w2 ⟨rfl, hb2⟩
    have B2 := ((below_new w _).alloc (by simp) _).trans (hb2.mono (by simp; omega))
    go_wp2
    go_ret2
    exact ⟨rfl, B2⟩
  · obtain ⟨rfl, rfl⟩ : v1 = 0 ∧ v2 = 3 := by unfold winV at hv; rw [if_neg hw] at hv; simpa [eq_comm] using hv
    have hwn : decide (wayV x1 x3 hole ≤ x2) = false := by simpa using hw
    clear hv hw
    go_enter Try.func84, Try.ntmps84
    go_wp2_with (first | (go_at_call 82; refine (validPeg_any _ _ _ _ _ hs0).mono ?_; rintro e w' ⟨rfl, rfl⟩) | (go_at_call 77; refine (within_any _ _ _ _).mono ?_; rintro e w' ⟨rfl, rfl⟩) | (go_at_call 83; go_in))
    refine (wayIn_any _ _ _ _ _ _ b1 b2 b3 b4 b5 b6 b7 b8).mono ?_
    rintro e w2 ⟨rfl, hb2⟩
    have B2 := ((below_new w _).alloc (by simp) _).trans (hb2.mono (by simp; omega))
    go_wp2
    go_ret2
    exact ⟨rfl, B2⟩

set_option maxHeartbeats 400000 in
theorem l00Max0_any (d : Int) (w : World) :
    Calls Try.prog 74 #[.int .i64 0, .int .i64 d] w fun e w' => e = .returned (.int .i64 (pos0 d)) ∧ w = w' := by
  by_cases h : 0 < d
  · have HF := Lib.hid (pos_yes h)
    go_enter Try.func74, Try.ntmps74
    go_wp2
    go_ret
    exact ⟨by rw [HF.out]; rfl, rfl⟩
  · have HF := Lib.hid (pos_no h)
    go_enter Try.func74, Try.ntmps74
    go_wp2
    all_goals (go_ret; exact ⟨by rw [HF.out]; first | rfl | (simp; omega), rfl⟩)

theorem calls_num {P : Program} {f : FuncId} {args : Array Value} {w : World} {x b : Int} (h : Calls P f args w fun e w' => e = .returned (.int .i64 x) ∧ w = w') (hb : x = b) :
    Calls P f args w fun e w' => e = .returned (.int .i64 b) ∧ w = w' := hb ▸ h

/-- The way, or -1 if it is too far. -/
def inV (x1 x2 x3 hole : Int) : Int := if x2 < wayV x1 x3 hole then -1 else wayV x1 x3 hole

set_option maxHeartbeats 1000000 in
theorem l12In_any (b o : Nat) (x0 : ByteArray) (x1 : Int) (x2 : Int) (x3 : Int) (hole : Int) (w : World) (h0 : w.cell? ⟨b, o, none⟩ = some (.string x0)) (h1 : w.cell? ⟨b, o + 1, none⟩ = some (.int .i64 x1)) (h2 : w.cell? ⟨b, o + 2, none⟩ = some (.int .i64 x2)) (h3 : w.cell? ⟨b, o + 3, none⟩ = some (.int .i64 x3)) (b1 : 20 ≤ x1) (b2 : x1 ≤ 200) (b3 : 100 ≤ x2) (b4 : x2 ≤ 1000) (b5 : 10 ≤ x3) (b6 : x3 ≤ 100) (b7 : 20 ≤ hole) (b8 : hole ≤ 200) :
    Calls Try.prog 81 #[.pointer (some ⟨b, o, none⟩), .int .i64 hole] w fun e w' => e = .returned (.int .i64 (inV x1 x2 x3 hole)) ∧ ∃ q, w' = w.drewN q := by
  by_cases hd : 0 < hole - x1
  · have p1 : 0 ≤ (hole - x1) * x3 := Int.mul_nonneg (by omega) (by omega)
    have p2 : (hole - x1) * x3 ≤ 18000 := way_le (by omega) (by omega) (by omega) (by omega)
    have HP := Lib.hid (pos_yes hd)
    have HW := Lib.hid (show wayV x1 x3 hole = (hole - x1) * x3 by unfold wayV; rw [pos_yes hd])
    by_cases hf : x2 < (hole - x1) * x3
    · have HF := Lib.hid (show inV x1 x2 x3 hole = -1 by unfold inV; rw [HW.out, if_pos hf])
      go_enter Try.func81, Try.ntmps81
      go_wp2
      go_big_quiet ((go_at_call 74; exact still_quiet (calls_num (l00Max0_any _ _) HP.out)))
      go_wp2
      go_ret
      exact ⟨by rw [HF.out]; rfl, _, rfl⟩
    · have HF := Lib.hid (show inV x1 x2 x3 hole = (hole - x1) * x3 by unfold inV; rw [HW.out, if_neg hf])
      have hfn : decide (x2 < (hole - x1) * x3) = false := by simpa using hf
      go_enter Try.func81, Try.ntmps81
      go_wp2
      go_big_quiet ((go_at_call 74; exact still_quiet (calls_num (l00Max0_any _ _) HP.out)))
      go_wp2
      go_ret
      exact ⟨by rw [HF.out]; rfl, _, rfl⟩
  · have HP := Lib.hid (pos_no hd)
    have HW := Lib.hid (show wayV x1 x3 hole = 0 by unfold wayV; rw [pos_no hd]; simp)
    clear hd
    have HF := Lib.hid (show inV x1 x2 x3 hole = 0 by unfold inV; rw [HW.out, if_neg (by omega)])
    go_enter Try.func81, Try.ntmps81
    go_wp2
    go_big_quiet ((go_at_call 74; exact still_quiet (calls_num (l00Max0_any _ _) HP.out)))
    go_wp2
    go_ret
    exact ⟨by rw [HF.out]; rfl, _, rfl⟩

/-- What TurnFor hands back. -/
def turnRes (x0 : ByteArray) (x1 : Int) (x2 : Int) (x3 : Int) (hole st : Int) : Int × Int := if vPeg x0 x1 x2 x3 = true then (if inB hole 20 200 = true then (if inB st 0 100 = true then (if wayV x1 x3 hole ≤ x2 then (rdiv (360000 * st) (3142 * (x1 + wayV x1 x3 hole / x3)), 0) else (0, 3)) else (0, 2)) else (0, 2)) else (0, 1)

theorem peg_bd {x0 : ByteArray} {x1 : Int} {x2 : Int} {x3 : Int} (h : vPeg x0 x1 x2 x3 = true) : (20 ≤ x1 ∧ x1 ≤ 200) ∧ (100 ≤ x2 ∧ x2 ≤ 1000) ∧ (10 ≤ x3 ∧ x3 ≤ 100) := by
  unfold vPeg at h
  simp only [Bool.and_eq_true] at h
  exact ⟨inB_true h.2.1, inB_true h.2.2.1, inB_true h.2.2.2⟩

set_option maxHeartbeats 2000000 in
theorem implTurnFor_any (x0 : ByteArray) (x1 : Int) (x2 : Int) (x3 : Int) (hole st v1 v2 : Int) (w : World) (hs0 : x0.size ≤ maxLen) (hv : turnRes x0 x1 x2 x3 hole st = (v1, v2)) :
    Calls Try.prog 30 #[.agg #[.string x0, .int .i64 x1, .int .i64 x2, .int .i64 x3], .int .i64 hole, .int .i64 st] w fun e w' => e = .returned (.tuple #[.int .i64 v1, .int .i64 v2]) ∧ Below w.heap.size w w' := by
  by_cases e0 : vPeg x0 x1 x2 x3 = true
  case neg =>
    obtain ⟨rfl, rfl⟩ : v1 = 0 ∧ v2 = 1 := by unfold turnRes at hv; rw [if_neg e0] at hv; simpa [eq_comm] using hv
    have e0n : vPeg x0 x1 x2 x3 = false := by simpa using e0
    clear hv e0
    go_enter Try.func30, Try.ntmps30
    go_wp2_with (first | (go_at_call 82; refine (validPeg_any _ _ _ _ _ hs0).mono ?_; rintro e w' ⟨rfl, rfl⟩) | (go_at_call 77; refine (within_any _ _ _ _).mono ?_; rintro e w' ⟨rfl, rfl⟩) | (go_at_call 83; go_in))
    go_ret2
    exact ⟨rfl, by repeat (first | exact below_new _ _ | exact (below_new _ _).alloc (by simp) _)⟩
  by_cases e1 : inB hole 20 200 = true
  case neg =>
    obtain ⟨rfl, rfl⟩ : v1 = 0 ∧ v2 = 2 := by unfold turnRes at hv; rw [if_pos e0, if_neg e1] at hv; simpa [eq_comm] using hv
    have e1n : inB hole 20 200 = false := by simpa using e1
    clear hv e1
    go_enter Try.func30, Try.ntmps30
    go_wp2_with (first | (go_at_call 82; refine (validPeg_any _ _ _ _ _ hs0).mono ?_; rintro e w' ⟨rfl, rfl⟩) | (go_at_call 77; refine (within_any _ _ _ _).mono ?_; rintro e w' ⟨rfl, rfl⟩) | (go_at_call 83; go_in))
    go_ret2
    exact ⟨rfl, by repeat (first | exact below_new _ _ | exact (below_new _ _).alloc (by simp) _)⟩
  by_cases e2 : inB st 0 100 = true
  case neg =>
    obtain ⟨rfl, rfl⟩ : v1 = 0 ∧ v2 = 2 := by unfold turnRes at hv; rw [if_pos e0, if_pos e1, if_neg e2] at hv; simpa [eq_comm] using hv
    have e2n : inB st 0 100 = false := by simpa using e2
    clear hv e2
    go_enter Try.func30, Try.ntmps30
    go_wp2_with (first | (go_at_call 82; refine (validPeg_any _ _ _ _ _ hs0).mono ?_; rintro e w' ⟨rfl, rfl⟩) | (go_at_call 77; refine (within_any _ _ _ _).mono ?_; rintro e w' ⟨rfl, rfl⟩) | (go_at_call 83; go_in))
    go_ret2
    exact ⟨rfl, by repeat (first | exact below_new _ _ | exact (below_new _ _).alloc (by simp) _)⟩
  obtain ⟨⟨b1, b2⟩, ⟨b3, b4⟩, ⟨b5, b6⟩⟩ := peg_bd e0
  obtain ⟨b7, b8⟩ := inB_true e1
  obtain ⟨s1, s2⟩ := inB_true e2
  have hwb := way_bd b1 b2 b3 b4 b5 b6 b7 b8
  obtain ⟨wb1, wb2⟩ := hwb
  have hq1 : 0 ≤ wayV x1 x3 hole / x3 := Int.ediv_nonneg wb1 (by omega)
  have hq2 : wayV x1 x3 hole / x3 ≤ wayV x1 x3 hole := Int.ediv_le_self x3 wb1
  replace hv : (if wayV x1 x3 hole ≤ x2 then (rdiv (360000 * st) (3142 * (x1 + wayV x1 x3 hole / x3)), 0) else ((0 : Int), (3 : Int))) = (v1, v2) := by unfold turnRes at hv; rw [if_pos e0, if_pos e1, if_pos e2] at hv; exact hv
  by_cases hw : wayV x1 x3 hole ≤ x2
  · obtain ⟨rfl, rfl⟩ : v1 = rdiv (st * 360000) (3142 * (x1 + wayV x1 x3 hole / x3)) ∧ v2 = 0 := by rw [if_pos hw, Int.mul_comm 360000 st] at hv; simpa [eq_comm] using hv
    clear hv
    have HWV := Lib.hid (show winV x1 x2 x3 hole = (wayV x1 x3 hole, 0) by unfold winV; rw [if_pos hw])
    go_enter Try.func30, Try.ntmps30
    go_wp2_with (first | (go_at_call 82; refine (validPeg_any _ _ _ _ _ hs0).mono ?_; rintro e w' ⟨rfl, rfl⟩) | (go_at_call 77; refine (within_any _ _ _ _).mono ?_; rintro e w' ⟨rfl, rfl⟩) | (go_at_call 83; go_in))
    refine (WayIn_any _ _ _ _ _ _ _ _ hs0 e0 e1 b1 b2 b3 b4 b5 b6 b7 b8 HWV.out).mono ?_
    rintro e w2 ⟨rfl, hb2⟩
    have B2 := ((below_new w _).alloc (by simp) _).trans (hb2.mono (by simp; omega))
    have z0 : w2.cell? ⟨w.heap.size, 0, none⟩ = some (.string x0) := (bcell hb2 _ _ (by simp; omega)).trans (by simp)
    have z1 : w2.cell? ⟨w.heap.size, 1, none⟩ = some (.int .i64 x1) := (bcell hb2 _ _ (by simp; omega)).trans (by simp)
    have z2 : w2.cell? ⟨w.heap.size, 2, none⟩ = some (.int .i64 x2) := (bcell hb2 _ _ (by simp; omega)).trans (by simp)
    have z3 : w2.cell? ⟨w.heap.size, 3, none⟩ = some (.int .i64 x3) := (bcell hb2 _ _ (by simp; omega)).trans (by simp)
    clear hb2
    clear HWV
    go_wp2_with fail
    refine (at_any _ _ _ _ _ _ b1 b2 b5 b6 wb1 wb2).mono ?_
    rintro e w3 ⟨rfl, hb3⟩
    go_wp2_with ((go_at_call 78; refine (divRound_any _ _ _ (by omega) (by omega) (by omega) (by omega)).mono ?_; rintro e w' ⟨rfl, rfl⟩))
    go_ret2
    exact ⟨rfl, B2.trans (hb3.mono B2.size)⟩
  · obtain ⟨rfl, rfl⟩ : v1 = 0 ∧ v2 = 3 := by rw [if_neg hw] at hv; simpa [eq_comm] using hv
    clear hv
    have HWV := Lib.hid (show winV x1 x2 x3 hole = (0, 3) by unfold winV; rw [if_neg hw])
    go_enter Try.func30, Try.ntmps30
    go_wp2_with (first | (go_at_call 82; refine (validPeg_any _ _ _ _ _ hs0).mono ?_; rintro e w' ⟨rfl, rfl⟩) | (go_at_call 77; refine (within_any _ _ _ _).mono ?_; rintro e w' ⟨rfl, rfl⟩) | (go_at_call 83; go_in))
    refine (WayIn_any _ _ _ _ _ _ _ _ hs0 e0 e1 b1 b2 b3 b4 b5 b6 b7 b8 HWV.out).mono ?_
    rintro e w2 ⟨rfl, hb2⟩
    have B2 := ((below_new w _).alloc (by simp) _).trans (hb2.mono (by simp; omega))
    go_wp2
    go_ret2
    exact ⟨rfl, B2⟩

set_option maxHeartbeats 2000000 in
theorem specTurnFor_any (x0 : ByteArray) (x1 : Int) (x2 : Int) (x3 : Int) (hole st v1 v2 : Int) (w : World) (hs0 : x0.size ≤ maxLen) (hv : turnRes x0 x1 x2 x3 hole st = (v1, v2)) :
    Calls Try.prog 28 #[.agg #[.string x0, .int .i64 x1, .int .i64 x2, .int .i64 x3], .int .i64 hole, .int .i64 st] w fun e w' => e = .returned (.tuple #[.int .i64 v1, .int .i64 v2]) ∧ Below w.heap.size w w' := by
  have Z0 := Lib.hid (show (w.alloc (.cells #[.string x0, .int .i64 x1, .int .i64 x2, .int .i64 x3] 45)).cell? ⟨w.heap.size, 0, none⟩ = some (.string x0) by simp)
  have Z1 := Lib.hid (show (w.alloc (.cells #[.string x0, .int .i64 x1, .int .i64 x2, .int .i64 x3] 45)).cell? ⟨w.heap.size, 0 + 1, none⟩ = some (.int .i64 x1) by simp)
  have Z2 := Lib.hid (show (w.alloc (.cells #[.string x0, .int .i64 x1, .int .i64 x2, .int .i64 x3] 45)).cell? ⟨w.heap.size, 0 + 2, none⟩ = some (.int .i64 x2) by simp)
  have Z3 := Lib.hid (show (w.alloc (.cells #[.string x0, .int .i64 x1, .int .i64 x2, .int .i64 x3] 45)).cell? ⟨w.heap.size, 0 + 3, none⟩ = some (.int .i64 x3) by simp)
  by_cases e0 : vPeg x0 x1 x2 x3 = true
  case neg =>
    obtain ⟨rfl, rfl⟩ : v1 = 0 ∧ v2 = 1 := by unfold turnRes at hv; rw [if_neg e0] at hv; simpa [eq_comm] using hv
    have e0n : vPeg x0 x1 x2 x3 = false := by simpa using e0
    clear hv e0
    go_enter Try.func28, Try.ntmps28
    go_wp2_with (first | (go_at_call 79; refine (onePeg_any w.heap.size 0 x0 x1 x2 x3 _ hs0 Z0.out Z1.out Z2.out Z3.out).mono ?_; rintro e w' ⟨rfl, rfl⟩) | (go_at_call 73; refine (l00In_any _ _ _ _).mono ?_; rintro e w' ⟨rfl, rfl⟩) | (go_at_call 80; go_in))
    go_ret2
    exact ⟨rfl, by repeat (first | exact below_new _ _ | exact (below_new _ _).alloc (by simp) _)⟩
  by_cases e1 : inB hole 20 200 = true
  case neg =>
    obtain ⟨rfl, rfl⟩ : v1 = 0 ∧ v2 = 2 := by unfold turnRes at hv; rw [if_pos e0, if_neg e1] at hv; simpa [eq_comm] using hv
    have e1n : inB hole 20 200 = false := by simpa using e1
    clear hv e1
    go_enter Try.func28, Try.ntmps28
    go_wp2_with (first | (go_at_call 79; refine (onePeg_any w.heap.size 0 x0 x1 x2 x3 _ hs0 Z0.out Z1.out Z2.out Z3.out).mono ?_; rintro e w' ⟨rfl, rfl⟩) | (go_at_call 73; refine (l00In_any _ _ _ _).mono ?_; rintro e w' ⟨rfl, rfl⟩) | (go_at_call 80; go_in))
    go_ret2
    exact ⟨rfl, by repeat (first | exact below_new _ _ | exact (below_new _ _).alloc (by simp) _)⟩
  by_cases e2 : inB st 0 100 = true
  case neg =>
    obtain ⟨rfl, rfl⟩ : v1 = 0 ∧ v2 = 2 := by unfold turnRes at hv; rw [if_pos e0, if_pos e1, if_neg e2] at hv; simpa [eq_comm] using hv
    have e2n : inB st 0 100 = false := by simpa using e2
    clear hv e2
    go_enter Try.func28, Try.ntmps28
    go_wp2_with (first | (go_at_call 79; refine (onePeg_any w.heap.size 0 x0 x1 x2 x3 _ hs0 Z0.out Z1.out Z2.out Z3.out).mono ?_; rintro e w' ⟨rfl, rfl⟩) | (go_at_call 73; refine (l00In_any _ _ _ _).mono ?_; rintro e w' ⟨rfl, rfl⟩) | (go_at_call 80; go_in))
    go_ret2
    exact ⟨rfl, by repeat (first | exact below_new _ _ | exact (below_new _ _).alloc (by simp) _)⟩
  obtain ⟨⟨b1, b2⟩, ⟨b3, b4⟩, ⟨b5, b6⟩⟩ := peg_bd e0
  obtain ⟨b7, b8⟩ := inB_true e1
  obtain ⟨s1, s2⟩ := inB_true e2
  have hwb := way_bd b1 b2 b3 b4 b5 b6 b7 b8
  obtain ⟨wb1, wb2⟩ := hwb
  have hq1 : 0 ≤ wayV x1 x3 hole / x3 := Int.ediv_nonneg wb1 (by omega)
  have hq2 : wayV x1 x3 hole / x3 ≤ wayV x1 x3 hole := Int.ediv_le_self x3 wb1
  replace hv : (if wayV x1 x3 hole ≤ x2 then (rdiv (360000 * st) (3142 * (x1 + wayV x1 x3 hole / x3)), 0) else ((0 : Int), (3 : Int))) = (v1, v2) := by unfold turnRes at hv; rw [if_pos e0, if_pos e1, if_pos e2] at hv; exact hv
  by_cases hw : wayV x1 x3 hole ≤ x2
  · obtain ⟨rfl, rfl⟩ : v1 = rdiv (360000 * st) (3142 * (x1 + wayV x1 x3 hole / x3)) ∧ v2 = 0 := by rw [if_pos hw] at hv; simpa [eq_comm] using hv
    clear hv
    have HIV := Lib.hid (show inV x1 x2 x3 hole = wayV x1 x3 hole by unfold inV; rw [if_neg (by omega)])
    go_enter Try.func28, Try.ntmps28
    go_wp2_with (first | (go_at_call 79; refine (onePeg_any w.heap.size 0 x0 x1 x2 x3 _ hs0 Z0.out Z1.out Z2.out Z3.out).mono ?_; rintro e w' ⟨rfl, rfl⟩) | (go_at_call 73; refine (l00In_any _ _ _ _).mono ?_; rintro e w' ⟨rfl, rfl⟩) | (go_at_call 80; go_in))
    refine (l12In_any w.heap.size 0 x0 x1 x2 x3 _ _ Z0.out Z1.out Z2.out Z3.out b1 b2 b3 b4 b5 b6 b7 b8).mono ?_
    rintro e w2 ⟨rfl, q, rfl⟩
    rw [HIV.out]
    clear HIV
    have wn : decide (wayV x1 x3 hole < 0) = false := by simp; omega
    go_wp2
    go_big_quiet ((go_at_call 75; exact quiet_add_eq (l01Div_any _ _ _ (by omega) (by omega) (by omega) (by omega))))
    go_wp2
    go_ret2
    exact ⟨rfl, below_drewN (below_drewN (below_new _ _) _) _⟩
  · obtain ⟨rfl, rfl⟩ : v1 = 0 ∧ v2 = 3 := by rw [if_neg hw] at hv; simpa [eq_comm] using hv
    clear hv
    have HIV := Lib.hid (show inV x1 x2 x3 hole = -1 by unfold inV; rw [if_pos (by omega)])
    go_enter Try.func28, Try.ntmps28
    go_wp2_with (first | (go_at_call 79; refine (onePeg_any w.heap.size 0 x0 x1 x2 x3 _ hs0 Z0.out Z1.out Z2.out Z3.out).mono ?_; rintro e w' ⟨rfl, rfl⟩) | (go_at_call 73; refine (l00In_any _ _ _ _).mono ?_; rintro e w' ⟨rfl, rfl⟩) | (go_at_call 80; go_in))
    refine (l12In_any w.heap.size 0 x0 x1 x2 x3 _ _ Z0.out Z1.out Z2.out Z3.out b1 b2 b3 b4 b5 b6 b7 b8).mono ?_
    rintro e w2 ⟨rfl, q, rfl⟩
    rw [HIV.out]
    go_wp2
    go_ret2
    exact ⟨rfl, below_drewN (below_new _ _) _⟩
end Go.Proofs.Ytbhiobmkgiokiaa
