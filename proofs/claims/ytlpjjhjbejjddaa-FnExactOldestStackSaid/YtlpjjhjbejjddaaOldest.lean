/- The contracts of OldestStack. -/
import Derived.Test.YtlpjjhjbejjddaaStackV
import Derived.Test.YtlpjjhjbejjddaaSums
import Derived.Test.YtlpjjhjbejjddaaMore
namespace Go.Proofs.Ytlpjjhjbejjddaa
open Go.RowKit
attribute [local go_sem ↓] Go.wp_at_zero Go.wp_at_succ
set_option linter.unusedVariables false

/-- The oldest stack, at a day. -/
def oldVal (F0 : Nat → ByteArray) (F3 : Nat → Int) (b : Nat) (day : Int) : ByteArray × Int × Int := if day < F3 b then (ByteArray.empty, 0, 6) else (F0 b, day - F3 b, 0)

/-- What the function hands back. -/
def oldRes (n : Nat) (F0 : Nat → ByteArray) (F1 : Nat → Int) (F2 : Nat → Int) (F3 : Nat → Int) (day : Int) : ByteArray × Int × Int := (if listStack n F0 F1 F2 F3 = true then (if inB day 0 36524 = true then (if (!decide (n = 0)) = true then (oldVal F0 F3 (bestTo (fun k => -(F3 k)) n) day) else (ByteArray.empty, 0, 3)) else (ByteArray.empty, 0, 2)) else (ByteArray.empty, 0, 1))

theorem since_bd {n : Nat} {F0 : Nat → ByteArray} {F1 : Nat → Int} {F2 : Nat → Int} {F3 : Nat → Int} (h : listStack n F0 F1 F2 F3 = true) (k : Nat) (hk : k < n) : 0 ≤ F3 k ∧ F3 k ≤ 36524 := by
  have h1 := listStack_at h k hk
  unfold vStack at h1
  simp only [Bool.and_eq_true] at h1
  exact inB_true h1.2.2.2

theorem box_set {w : World} {g : Nat} {t : TypeId} {f : Nat → Value} (h : w.rowIs g t 4 f) (F0 : Nat → ByteArray) (F1 : Nat → Int) (F2 : Nat → Int) (F3 : Nat → Int) (i : Nat) : ((((w.setCell ⟨g, 0, none⟩ (.string (F0 i))).setCell ⟨g, 1, none⟩ (.int .i64 (F1 i))).setCell ⟨g, 2, none⟩ (.int .i64 (F2 i))).setCell ⟨g, 3, none⟩ (.int .i64 (F3 i))).rowIs g t 4 (rowStack F0 F1 F2 F3 i) :=
  ((((h.set 0 _).set 1 _).set 2 _).set 3 _).congr (fun j hj => by
    match j, hj with
    | 0, _ => rfl
    | 1, _ => rfl
    | 2, _ => rfl
    | 3, _ => rfl)

theorem box_new {w : World} {t : TypeId} (F0 : Nat → ByteArray) (F1 : Nat → Int) (F2 : Nat → Int) (F3 : Nat → Int) (i : Nat) : (w.alloc (.cells #[.string (F0 i), .int .i64 (F1 i), .int .i64 (F2 i), .int .i64 (F3 i)] t)).rowIs w.heap.size t 4 (rowStack F0 F1 F2 F3 i) :=
  World.rowIs_alloc w #[.string (F0 i), .int .i64 (F1 i), .int .i64 (F2 i), .int .i64 (F3 i)] t _ (fun j hj => by
    match j, hj with
    | 0, _ => rfl
    | 1, _ => rfl
    | 2, _ => rfl
    | 3, _ => rfl)

theorem box_at {w : World} {g i : Nat} {t : TypeId} {F0 : Nat → ByteArray} {F1 : Nat → Int} {F2 : Nat → Int} {F3 : Nat → Int} (h : w.rowIs g t 4 (rowStack F0 F1 F2 F3 i)) : w.cell? ⟨g, 0, none⟩ = some (.string (F0 i)) ∧ w.cell? ⟨g, 1, none⟩ = some (.int .i64 (F1 i)) ∧ w.cell? ⟨g, 2, none⟩ = some (.int .i64 (F2 i)) ∧ w.cell? ⟨g, 3, none⟩ = some (.int .i64 (F3 i)) :=
  ⟨h.cell (i := 0) (by omega), h.cell (i := 1) (by omega), h.cell (i := 2) (by omega), h.cell (i := 3) (by omega)⟩

set_option maxHeartbeats 2000000 in
theorem implOldestStack_any (g n : Nat) (F0 : Nat → ByteArray) (F1 : Nat → Int) (F2 : Nat → Int) (F3 : Nat → Int) (day : Int) (v1 : ByteArray) (v2 : Int) (v3 : Int) (w : World) (t1 : TypeId) (hn : n ≤ 1048576) (h1 : w.rowIs g t1 (n * 4) (flat 4 (rowStack F0 F1 F2 F3))) (hS0 : ∀ i, i < n → (F0 i).size ≤ maxLen)  (hv : oldRes n F0 F1 F2 F3 day = (v1, v2, v3)) :
    Calls Try.prog 33 #[.slice (some ⟨g, 0, none⟩) n n, .int .i64 day] w fun e w' => e = .returned (.tuple #[.string v1, .int .i64 v2, .int .i64 v3]) ∧ Below w.heap.size w w' := by
  have hl1 := h1.lt
  have HR1 := Lib.hid (RdStack.of_row h1)
  have H1 := Lib.hid h1
  have HS0 := Lib.hid hS0
  clear h1 hS0
  by_cases e0 : listStack n F0 F1 F2 F3 = true
  case neg =>
    obtain ⟨rfl, rfl, rfl⟩ : v1 = ByteArray.empty ∧ v2 = 0 ∧ v3 = 1 := by unfold oldRes at hv; rw [if_neg e0] at hv; simpa [eq_comm] using hv
    have e0n : (listStack n F0 F1 F2 F3) = false := by simpa using e0
    clear hv e0
    go_enter Try.func33, Try.ntmps33
    go_wp2_with fail
    refine (ValidStack_any _ _ F0 F1 F2 F3 _ _ hn H1.out HS0.out).mono ?_
    rintro e w1 ⟨rfl, hb1⟩
    go_wp2_with (first | (go_at_call 120; refine (within_any _ _ _ _).mono ?_; rintro e w' ⟨rfl, rfl⟩) | go_in)
    go_ret3
    exact ⟨rfl, hb1⟩
  by_cases e1 : inB day 0 36524 = true
  case neg =>
    obtain ⟨rfl, rfl, rfl⟩ : v1 = ByteArray.empty ∧ v2 = 0 ∧ v3 = 2 := by unfold oldRes at hv; rw [if_pos e0, if_neg e1] at hv; simpa [eq_comm] using hv
    have e1n : (inB day 0 36524) = false := by simpa using e1
    clear hv e1
    go_enter Try.func33, Try.ntmps33
    go_wp2_with fail
    refine (ValidStack_any _ _ F0 F1 F2 F3 _ _ hn H1.out HS0.out).mono ?_
    rintro e w1 ⟨rfl, hb1⟩
    go_wp2_with (first | (go_at_call 120; refine (within_any _ _ _ _).mono ?_; rintro e w' ⟨rfl, rfl⟩) | go_in)
    go_ret3
    exact ⟨rfl, hb1⟩
  by_cases e2 : (!decide (n = 0)) = true
  case neg =>
    obtain ⟨rfl, rfl, rfl⟩ : v1 = ByteArray.empty ∧ v2 = 0 ∧ v3 = 3 := by unfold oldRes at hv; rw [if_pos e0, if_pos e1, if_neg e2] at hv; simpa [eq_comm] using hv
    have e2n : ((!decide (n = 0))) = false := by simpa using e2
    have q1 : n = 0 := by simpa using e2n
    have q2 : ((n : Int) == 0) = true := by simp; omega
    have Q1 := Lib.hid q1
    clear e2n q1
    clear hv e2
    go_enter Try.func33, Try.ntmps33
    go_wp2_with fail
    refine (ValidStack_any _ _ F0 F1 F2 F3 _ _ hn H1.out HS0.out).mono ?_
    rintro e w1 ⟨rfl, hb1⟩
    go_wp2_with (first | (go_at_call 120; refine (within_any _ _ _ _).mono ?_; rintro e w' ⟨rfl, rfl⟩) | go_in)
    go_ret3
    exact ⟨rfl, hb1⟩
  replace hv : (oldVal F0 F3 (bestTo (fun k => -(F3 k)) n) day) = (v1, v2, v3) := by unfold oldRes at hv; rw [if_pos e0, if_pos e1, if_pos e2] at hv; exact hv
  have q1 : ¬ n = 0 := by simpa using e2
  have q2 : ((n : Int) == 0) = false := by simp; omega
  have q3 : 0 < n := by omega
  clear e2 q1
  have HV := Lib.hid hv
  clear hv
  go_enter Try.func33, Try.ntmps33
  go_wp2_with fail
  refine (ValidStack_any _ _ F0 F1 F2 F3 _ _ hn H1.out HS0.out).mono ?_
  rintro e w1 ⟨rfl, hb1⟩
  have H2 := Lib.hid (row_below H1.out hb1 H1.out.lt)
  have SB := Lib.hid (fun k hk => since_bd e0 k hk)
  obtain ⟨a0, a1, a2, a3⟩ := HR1.out 0 q3
  rw [← bcell hb1 _ _ hl1] at a0 a1 a2 a3
  simp only [Nat.zero_add, Nat.zero_mul] at a0 a1 a2 a3
  have hn0 : (0 : Int) < (n : Int) := by omega
  go_wp2_with (first | (go_at_call 120; refine (within_any _ _ _ _).mono ?_; rintro e w' ⟨rfl, rfl⟩) | go_in)
  clear a0 a1 a2 a3
  have hB0 : w.heap.size ≤ w1.heap.size := hb1.size
  go_loopw [27] (fun i wr => ∃ (k b : Nat), k ≤ n ∧ b < n ∧ i = .int .i64 k ∧ Hid (b = bestTo (fun k => -(F3 k)) k) ∧ wr.rowIs w1.heap.size 37 4 (rowStack F0 F1 F2 F3 b) ∧ Below w.heap.size w wr) (fun i _ => n - (intOf i).toNat)
  case atStart => exact ⟨0, 0, by omega, by omega, rfl, rfl, box_new F0 F1 F2 F3 0, hb1.alloc hb1.size _⟩
  case round =>
    obtain ⟨k, b, hk, hbn, rfl, hbest, hr, hbel⟩ := hrel
    have hlw := hr.lt
    obtain ⟨d0, d1, d2, d3⟩ := box_at hr
    have f0 := hr.frozen 0
    have f1 := hr.frozen 1
    have f2 := hr.frozen 2
    have f3 := hr.frozen 3
    have HR := Lib.hid hr
    clear hr
    by_cases hlt : k < n
    · have hlti : (k : Int) < (n : Int) := by omega
      obtain ⟨c0, c1, c2, c3⟩ := HR1.out k hlt
      have hbc := bcell hbel
      rw [← hbc _ _ hl1] at c0 c1 c2 c3
      simp only [Nat.zero_add] at c0 c1 c2 c3
      clear hbc
      by_cases hc : F3 k < F3 b
      · have HB := Lib.hid (show Hid (k = bestTo (fun k => -(F3 k)) (k + 1)) by have h := hbest.out; show _ = _; rw [bestTo_yes (by rw [← h]; show -(F3 b) < -(F3 k); omega)])
        have HX := Lib.hid ((((hbel.setCell (p := ⟨w1.heap.size, 0, none⟩) hB0 (.string (F0 k))).setCell (p := ⟨w1.heap.size, 1, none⟩) hB0 (.int .i64 (F1 k))).setCell (p := ⟨w1.heap.size, 2, none⟩) hB0 (.int .i64 (F2 k))).setCell (p := ⟨w1.heap.size, 3, none⟩) hB0 (.int .i64 (F3 k)))
        clear hbest
        go_wp2
        go_roundw
        case rel => first | exact ⟨k + 1, k, by omega, by omega, by go_num, HB.out, (box_set HR.out F0 F1 F2 F3 k).alloc _, HX.out.alloc HX.out.size _⟩ | ((repeat apply Exists.intro); exact ⟨⟨k + 1, k, by omega, by omega, by go_num, HB.out, (box_set HR.out F0 F1 F2 F3 k).alloc _, HX.out.alloc HX.out.size _⟩, rfl⟩)
        case measure => simp [intOf]; omega
      · have HB := Lib.hid (show Hid (b = bestTo (fun k => -(F3 k)) (k + 1)) by have h := hbest.out; show _ = _; rw [bestTo_no (by rw [← h]; show ¬ -(F3 b) < -(F3 k); omega)]; exact h)
        have hcd : decide (F3 k < F3 b) = false := by simpa using hc
        clear hbest
        go_wp2
        go_roundw
        case rel => first | exact ⟨k + 1, b, by omega, by omega, by go_num, HB.out, HR.out.alloc _, hbel.alloc hbel.size _⟩ | ((repeat apply Exists.intro); exact ⟨⟨k + 1, b, by omega, by omega, by go_num, HB.out, HR.out.alloc _, hbel.alloc hbel.size _⟩, rfl⟩)
        case measure => simp [intOf]; omega
    · obtain rfl : k = n := by omega
      have hv := HV.out
      rw [← hbest.out] at hv
      clear hbest
      obtain ⟨s1, s2⟩ := SB.out b hbn
      obtain ⟨y1, y2⟩ := inB_true e1
      by_cases hdy : day < F3 b
      · have hv2 : v1 = ByteArray.empty ∧ v2 = 0 ∧ v3 = 6 := by unfold oldVal at hv; rw [if_pos hdy] at hv; simpa [eq_comm] using hv
        clear hv
        obtain ⟨rfl, rfl, rfl⟩ := hv2
        go_wp2
        go_ret3
        exact ⟨rfl, hbel⟩
      · have hv2 : v1 = F0 b ∧ v2 = day - F3 b ∧ v3 = 0 := by unfold oldVal at hv; rw [if_neg hdy] at hv; simpa [eq_comm] using hv
        clear hv
        obtain ⟨rfl, rfl, rfl⟩ := hv2
        have hdn : decide (day < F3 b) = false := by simpa using hdy
        go_wp2
        go_big_quiet (fail)
        go_wp2
        go_ret3
        exact ⟨rfl, below_drewN (hbel) _⟩

set_option maxHeartbeats 2000000 in
theorem specOldestStack_any (g n : Nat) (F0 : Nat → ByteArray) (F1 : Nat → Int) (F2 : Nat → Int) (F3 : Nat → Int) (day : Int) (v1 : ByteArray) (v2 : Int) (v3 : Int) (w : World) (t1 : TypeId) (hn : n ≤ 1048576) (h1 : w.rowIs g t1 (n * 4) (flat 4 (rowStack F0 F1 F2 F3))) (hS0 : ∀ i, i < n → (F0 i).size ≤ maxLen)  (hv : oldRes n F0 F1 F2 F3 day = (v1, v2, v3)) :
    Calls Try.prog 31 #[.slice (some ⟨g, 0, none⟩) n n, .int .i64 day] w fun e w' => e = .returned (.tuple #[.string v1, .int .i64 v2, .int .i64 v3]) ∧ Below w.heap.size w w' := by
  have hl1 := h1.lt
  have HR1 := Lib.hid (RdStack.of_row h1)
  have H1 := Lib.hid h1
  have HS0 := Lib.hid hS0
  clear h1 hS0
  by_cases e0 : listStack n F0 F1 F2 F3 = true
  case neg =>
    obtain ⟨rfl, rfl, rfl⟩ : v1 = ByteArray.empty ∧ v2 = 0 ∧ v3 = 1 := by unfold oldRes at hv; rw [if_neg e0] at hv; simpa [eq_comm] using hv
    have e0n : (listStack n F0 F1 F2 F3) = false := by simpa using e0
    clear hv e0
    go_enter Try.func31, Try.ntmps31
    go_wp2_with fail
    refine (OkStack_any _ _ F0 F1 F2 F3 _ _ hn H1.out HS0.out).mono ?_
    rintro e w1 ⟨rfl, hb1⟩
    go_wp2_with (first | (go_at_call 124; refine (l00In_any _ _ _ _).mono ?_; rintro e w' ⟨rfl, rfl⟩) | go_in)
    go_ret3
    exact ⟨rfl, hb1⟩
  by_cases e1 : inB day 0 36524 = true
  case neg =>
    obtain ⟨rfl, rfl, rfl⟩ : v1 = ByteArray.empty ∧ v2 = 0 ∧ v3 = 2 := by unfold oldRes at hv; rw [if_pos e0, if_neg e1] at hv; simpa [eq_comm] using hv
    have e1n : (inB day 0 36524) = false := by simpa using e1
    clear hv e1
    go_enter Try.func31, Try.ntmps31
    go_wp2_with fail
    refine (OkStack_any _ _ F0 F1 F2 F3 _ _ hn H1.out HS0.out).mono ?_
    rintro e w1 ⟨rfl, hb1⟩
    go_wp2_with (first | (go_at_call 124; refine (l00In_any _ _ _ _).mono ?_; rintro e w' ⟨rfl, rfl⟩) | go_in)
    go_ret3
    exact ⟨rfl, hb1⟩
  by_cases e2 : (!decide (n = 0)) = true
  case neg =>
    obtain ⟨rfl, rfl, rfl⟩ : v1 = ByteArray.empty ∧ v2 = 0 ∧ v3 = 3 := by unfold oldRes at hv; rw [if_pos e0, if_pos e1, if_neg e2] at hv; simpa [eq_comm] using hv
    have e2n : ((!decide (n = 0))) = false := by simpa using e2
    have q1 : n = 0 := by simpa using e2n
    have q2 : ((n : Int) == 0) = true := by simp; omega
    have Q1 := Lib.hid q1
    clear e2n q1
    clear hv e2
    go_enter Try.func31, Try.ntmps31
    go_wp2_with fail
    refine (OkStack_any _ _ F0 F1 F2 F3 _ _ hn H1.out HS0.out).mono ?_
    rintro e w1 ⟨rfl, hb1⟩
    go_wp2_with (first | (go_at_call 124; refine (l00In_any _ _ _ _).mono ?_; rintro e w' ⟨rfl, rfl⟩) | go_in)
    obtain rfl := Q1.out
    go_loopw [7, 8] (fun v i wr => i = .int .i64 0 ∧ v = .int .i64 (-1) ∧ w1 = wr) (fun _ _ _ => 0)
    case atStart => exact ⟨rfl, rfl, rfl⟩
    case round =>
      obtain ⟨rfl, rfl, rfl⟩ := hrel
      go_wp2
      go_ret3
      exact ⟨rfl, hb1⟩
  replace hv : (oldVal F0 F3 (bestTo (fun k => -(F3 k)) n) day) = (v1, v2, v3) := by unfold oldRes at hv; rw [if_pos e0, if_pos e1, if_pos e2] at hv; exact hv
  have q1 : ¬ n = 0 := by simpa using e2
  have q2 : ((n : Int) == 0) = false := by simp; omega
  have q3 : 0 < n := by omega
  clear e2 q1
  have HV := Lib.hid hv
  clear hv
  go_enter Try.func31, Try.ntmps31
  go_wp2_with fail
  refine (OkStack_any _ _ F0 F1 F2 F3 _ _ hn H1.out HS0.out).mono ?_
  rintro e w1 ⟨rfl, hb1⟩
  have H2 := Lib.hid (row_below H1.out hb1 H1.out.lt)
  have SB := Lib.hid (fun k hk => since_bd e0 k hk)
  go_wp2_with (first | (go_at_call 124; refine (l00In_any _ _ _ _).mono ?_; rintro e w' ⟨rfl, rfl⟩) | go_in)
  go_loopw [7, 8] (fun v i wr => ∃ (k b : Nat), k ≤ n ∧ b < n ∧ i = .int .i64 k ∧ v = .int .i64 (if k = 0 then -1 else (b : Int)) ∧ Hid (b = bestTo (fun k => -(F3 k)) k) ∧ Below w.heap.size w wr) (fun _ i _ => n - (intOf i).toNat)
  case atStart => exact ⟨0, 0, by omega, by omega, rfl, rfl, rfl, hb1⟩
  case round =>
    obtain ⟨k, b, hk, hbn, rfl, rfl, hbest, hbel⟩ := hrel
    have hbi : (b : Int) < (n : Int) := by omega
    have hb0 : (0 : Int) ≤ (b : Int) := by omega
    obtain ⟨d0, d1, d2, d3⟩ := HR1.out b hbn
    rw [← bcell hbel _ _ hl1] at d0 d1 d2 d3
    simp only [Nat.zero_add] at d0 d1 d2 d3
    by_cases hlt : k < n
    · have hlti : (k : Int) < (n : Int) := by omega
      have hki : (0 : Int) ≤ (k : Int) := by omega
      obtain ⟨c0, c1, c2, c3⟩ := HR1.out k hlt
      have hbc := bcell hbel
      rw [← hbc _ _ hl1] at c0 c1 c2 c3
      simp only [Nat.zero_add] at c0 c1 c2 c3
      clear hbc
      by_cases hk0 : k = 0
      · have HB := Lib.hid (show Hid (0 = bestTo (fun k => -(F3 k)) (k + 1)) by rw [hk0]; exact (bestTo_one _).symm)
        obtain rfl := hk0
        clear hbest
        simp only [if_true]
        go_wp2
        go_big_quiet (fail)
        go_wp2
        go_roundw
        case rel => first | exact ⟨0 + 1, 0, by omega, by omega, by go_num, rfl, HB.out, below_drewN hbel _⟩ | ((repeat apply Exists.intro); exact ⟨⟨0 + 1, 0, by omega, by omega, by go_num, rfl, HB.out, below_drewN hbel _⟩, rfl⟩)
        case measure => simp [intOf]; omega
      · simp only [if_neg hk0]
        have hbd : decide ((b : Int) < 0) = false := decide_eq_false (by omega)
        by_cases hc : F3 k < F3 b
        · have HB := Lib.hid (show Hid (k = bestTo (fun k => -(F3 k)) (k + 1)) by have h := hbest.out; show _ = _; rw [bestTo_yes (by rw [← h]; show -(F3 b) < -(F3 k); omega)])
          clear hbest
          go_wp2
          go_big_quiet (fail)
          go_wp2
          go_roundw
          case rel => first | exact ⟨k + 1, k, by omega, by omega, by go_num, by rw [if_neg (by omega)], HB.out, below_drewN hbel _⟩ | ((repeat apply Exists.intro); exact ⟨⟨k + 1, k, by omega, by omega, by go_num, by rw [if_neg (by omega)], HB.out, below_drewN hbel _⟩, rfl⟩)
          case measure => simp [intOf]; omega
        · have HB := Lib.hid (show Hid (b = bestTo (fun k => -(F3 k)) (k + 1)) by have h := hbest.out; show _ = _; rw [bestTo_no (by rw [← h]; show ¬ -(F3 b) < -(F3 k); omega)]; exact h)
          have hcd : decide (F3 k < F3 b) = false := by simpa using hc
          clear hbest
          go_wp2
          go_big_quiet (fail)
          go_wp2
          go_roundw
          case rel => first | exact ⟨k + 1, b, by omega, by omega, by go_num, by rw [if_neg (by omega)], HB.out, below_drewN hbel _⟩ | ((repeat apply Exists.intro); exact ⟨⟨k + 1, b, by omega, by omega, by go_num, by rw [if_neg (by omega)], HB.out, below_drewN hbel _⟩, rfl⟩)
          case measure => simp [intOf]; omega
    · obtain rfl : k = n := by omega
      simp only [if_neg (show ¬ k = 0 by omega)]
      have hbd : decide ((b : Int) < 0) = false := decide_eq_false (by omega)
      have hv := HV.out
      rw [← hbest.out] at hv
      clear hbest
      obtain ⟨s1, s2⟩ := SB.out b hbn
      obtain ⟨y1, y2⟩ := inB_true e1
      by_cases hdy : day < F3 b
      · have hv2 : v1 = ByteArray.empty ∧ v2 = 0 ∧ v3 = 6 := by unfold oldVal at hv; rw [if_pos hdy] at hv; simpa [eq_comm] using hv
        clear hv
        obtain ⟨rfl, rfl, rfl⟩ := hv2
        go_wp2
        go_ret3
        exact ⟨rfl, hbel⟩
      · have hv2 : v1 = F0 b ∧ v2 = day - F3 b ∧ v3 = 0 := by unfold oldVal at hv; rw [if_neg hdy] at hv; simpa [eq_comm] using hv
        clear hv
        obtain ⟨rfl, rfl, rfl⟩ := hv2
        have hdn : decide (day < F3 b) = false := by simpa using hdy
        go_wp2
        go_big_quiet (fail)
        go_wp2
        go_ret3
        exact ⟨rfl, below_drewN (hbel) _⟩
end Go.Proofs.Ytlpjjhjbejjddaa
