/- The contracts of AddedMass. -/
import Derived.Test.YtkoijgeacekeaaaParts
namespace Go.Proofs.Ytkoijgeacekeaaa
open Go.RowKit
attribute [local go_sem ↓] Go.wp_at_zero Go.wp_at_succ
set_option linter.unusedVariables false

/-- The mass that is added, from the need. -/
def addVal (need at_ ba : Int) : Int × Int := if need ≤ 0 then (0, 0) else if at_ ≤ ba then (0, 3) else if 100000 < (need + at_ - ba - 1) / (at_ - ba) then (0, 5) else ((need + at_ - ba - 1) / (at_ - ba), 0)

/-- What the function hands back. -/
def addRes (n : Nat) (F0 : Nat → ByteArray) (F1 : Nat → Int) (F2 : Nat → Int) (at_ ba : Int) : Int × Int := (if listPart n F0 F1 F2 = true then (if inB at_ 0 8000 = true then (if inB ba 0 8000 = true then (addVal (ba * (sumAll (fun k => F2 k) n) - (sumAll (fun k => wrap64 (F2 k * F1 k)) n)) at_ ba) else (0, 2)) else (0, 2)) else (0, 1))

set_option maxHeartbeats 2000000 in
theorem specAddedMass_any (g n : Nat) (F0 : Nat → ByteArray) (F1 : Nat → Int) (F2 : Nat → Int) (at_ ba : Int) (v1 : Int) (v2 : Int) (w : World) (t1 : TypeId) (hn : n ≤ 1048576) (h1 : w.rowIs g t1 (n * 3) (flat 3 (rowPart F0 F1 F2))) (hS0 : ∀ i, i < n → (F0 i).size ≤ maxLen)  (hv : addRes n F0 F1 F2 at_ ba = (v1, v2)) :
    Calls Try.prog 37 #[.slice (some ⟨g, 0, none⟩) n n, .int .i64 at_, .int .i64 ba] w fun e w' => e = .returned (.tuple #[.int .i64 v1, .int .i64 v2]) ∧ Below w.heap.size w w' := by
  have hl1 := h1.lt
  have HR1 := Lib.hid (RdPart.of_row h1)
  have H1 := Lib.hid h1
  have HS0 := Lib.hid hS0
  clear h1 hS0
  by_cases e0 : listPart n F0 F1 F2 = true
  case neg =>
    obtain ⟨rfl, rfl⟩ : v1 = 0 ∧ v2 = 1 := by unfold addRes at hv; rw [if_neg e0] at hv; simpa [eq_comm] using hv
    have e0n : (listPart n F0 F1 F2) = false := by simpa using e0
    clear hv e0
    go_enter Try.func37, Try.ntmps37
    go_wp2_with fail
    refine (OkPart_any _ _ F0 F1 F2 _ _ hn H1.out HS0.out).mono ?_
    rintro e w1 ⟨rfl, hb1⟩
    go_wp2_with (first | (go_at_call 94; refine (l00In_any _ _ _ _).mono ?_; rintro e w' ⟨rfl, rfl⟩) | go_in)
    go_ret2
    exact ⟨rfl, hb1⟩
  by_cases e1 : inB at_ 0 8000 = true
  case neg =>
    obtain ⟨rfl, rfl⟩ : v1 = 0 ∧ v2 = 2 := by unfold addRes at hv; rw [if_pos e0, if_neg e1] at hv; simpa [eq_comm] using hv
    have e1n : (inB at_ 0 8000) = false := by simpa using e1
    clear hv e1
    go_enter Try.func37, Try.ntmps37
    go_wp2_with fail
    refine (OkPart_any _ _ F0 F1 F2 _ _ hn H1.out HS0.out).mono ?_
    rintro e w1 ⟨rfl, hb1⟩
    go_wp2_with (first | (go_at_call 94; refine (l00In_any _ _ _ _).mono ?_; rintro e w' ⟨rfl, rfl⟩) | go_in)
    go_ret2
    exact ⟨rfl, hb1⟩
  by_cases e2 : inB ba 0 8000 = true
  case neg =>
    obtain ⟨rfl, rfl⟩ : v1 = 0 ∧ v2 = 2 := by unfold addRes at hv; rw [if_pos e0, if_pos e1, if_neg e2] at hv; simpa [eq_comm] using hv
    have e2n : (inB ba 0 8000) = false := by simpa using e2
    clear hv e2
    go_enter Try.func37, Try.ntmps37
    go_wp2_with fail
    refine (OkPart_any _ _ F0 F1 F2 _ _ hn H1.out HS0.out).mono ?_
    rintro e w1 ⟨rfl, hb1⟩
    go_wp2_with (first | (go_at_call 94; refine (l00In_any _ _ _ _).mono ?_; rintro e w' ⟨rfl, rfl⟩) | go_in)
    go_ret2
    exact ⟨rfl, hb1⟩
  replace hv : (addVal (ba * (sumAll (fun k => F2 k) n) - (sumAll (fun k => wrap64 (F2 k * F1 k)) n)) at_ ba) = (v1, v2) := by unfold addRes at hv; rw [if_pos e0, if_pos e1, if_pos e2] at hv; exact hv
  have HV := Lib.hid hv
  clear hv
  go_enter Try.func37, Try.ntmps37
  go_wp2_with fail
  refine (OkPart_any _ _ F0 F1 F2 _ _ hn H1.out HS0.out).mono ?_
  rintro e w1 ⟨rfl, hb1⟩
  have H2 := Lib.hid (row_below H1.out hb1 H1.out.lt)
  go_wp2_with (first | (go_at_call 94; refine (l00In_any _ _ _ _).mono ?_; rintro e w' ⟨rfl, rfl⟩) | (go_at_call 73; fail) | (go_at_call 68; go_in))
  refine (l11Moment_any _ _ F0 F1 F2 _ _ hn H2.out).mono ?_
  rintro e w2 ⟨rfl, hb2⟩
  have H3 := Lib.hid (row_below H2.out hb2 H2.out.lt)
  go_wp2_with fail
  refine (l11Mass_any _ _ F0 F1 F2 _ _ hn H3.out).mono ?_
  rintro e w3 ⟨rfl, hb3⟩
  have hbd := mass_bd e0
  obtain ⟨⟨m1, m2⟩, ⟨q1, q2⟩⟩ := hbd
  have hv := HV.out
  clear HV
  generalize (sumAll (fun k => F2 k) n) = M1 at *
  generalize (sumAll (fun k => wrap64 (F2 k * F1 k)) n) = M2 at *
  obtain ⟨ta1, ta2⟩ := inB_true e1
  obtain ⟨tb1, tb2⟩ := inB_true e2
  have hp1 : 0 ≤ ba * M1 := Int.mul_nonneg (by omega) (by omega)
  have hp2 : ba * M1 ≤ 8000 * 1200000 := Int.mul_le_mul (by omega) (by omega) (by omega) (by omega)
  have HE := Lib.hid e0
  clear e0 e1 e2
  clear HE
  by_cases a1 : ba * M1 - M2 ≤ 0
  · have a1b : ba * M1 ≤ M2 := by omega
    have hv2 : v1 = 0 ∧ v2 = 0 := by unfold addVal at hv; rw [if_pos a1] at hv; simpa [eq_comm] using hv
    clear hv
    obtain ⟨rfl, rfl⟩ := hv2
    go_wp2_with go_in
    go_ret2
    exact ⟨rfl, (hb1.trans (hb2.mono hb1.size)).trans (hb3.mono (Nat.le_trans hb1.size hb2.size))⟩
  · have a1b : ¬ ba * M1 ≤ M2 := by omega
    have a1c : M2 < ba * M1 := by omega
    have a1d : 0 < ba * M1 - M2 := by omega
    by_cases a2 : at_ ≤ ba
    · have hv2 : v1 = 0 ∧ v2 = 3 := by unfold addVal at hv; rw [if_neg a1, if_pos a2] at hv; simpa [eq_comm] using hv
      clear hv
      obtain ⟨rfl, rfl⟩ := hv2
      clear a1
      go_wp2_with go_in
      go_ret2
      exact ⟨rfl, (hb1.trans (hb2.mono hb1.size)).trans (hb3.mono (Nat.le_trans hb1.size hb2.size))⟩
    · have a2b : ba < at_ := by omega
      have hq := div_le_self' (a := ba * M1 - M2 + at_ - ba - 1) (b := at_ - ba) (by omega) (by omega)
      obtain ⟨hq1, hq2⟩ := hq
      by_cases a3 : 100000 < (ba * M1 - M2 + at_ - ba - 1) / (at_ - ba)
      · have hv2 : v1 = 0 ∧ v2 = 5 := by unfold addVal at hv; rw [if_neg a1, if_neg a2, if_pos a3] at hv; simpa [eq_comm] using hv
        clear hv
        obtain ⟨rfl, rfl⟩ := hv2
        clear a1 a2
        go_wp2_with go_in
        go_ret2
        exact ⟨rfl, (hb1.trans (hb2.mono hb1.size)).trans (hb3.mono (Nat.le_trans hb1.size hb2.size))⟩
      · have hv2 : v1 = (ba * M1 - M2 + at_ - ba - 1) / (at_ - ba) ∧ v2 = 0 := by unfold addVal at hv; rw [if_neg a1, if_neg a2, if_neg a3] at hv; simpa [eq_comm] using hv
        clear hv
        obtain ⟨rfl, rfl⟩ := hv2
        clear a1 a2
        go_wp2_with go_in
        go_ret2
        exact ⟨rfl, (hb1.trans (hb2.mono hb1.size)).trans (hb3.mono (Nat.le_trans hb1.size hb2.size))⟩

set_option maxHeartbeats 2000000 in
theorem implAddedMass_any (g n : Nat) (F0 : Nat → ByteArray) (F1 : Nat → Int) (F2 : Nat → Int) (at_ ba : Int) (v1 : Int) (v2 : Int) (w : World) (t1 : TypeId) (hn : n ≤ 1048576) (h1 : w.rowIs g t1 (n * 3) (flat 3 (rowPart F0 F1 F2))) (hS0 : ∀ i, i < n → (F0 i).size ≤ maxLen)  (hv : addRes n F0 F1 F2 at_ ba = (v1, v2)) :
    Calls Try.prog 38 #[.slice (some ⟨g, 0, none⟩) n n, .int .i64 at_, .int .i64 ba] w fun e w' => e = .returned (.tuple #[.int .i64 v1, .int .i64 v2]) ∧ Below w.heap.size w w' := by
  have hl1 := h1.lt
  have HR1 := Lib.hid (RdPart.of_row h1)
  have H1 := Lib.hid h1
  have HS0 := Lib.hid hS0
  clear h1 hS0
  by_cases e0 : listPart n F0 F1 F2 = true
  case neg =>
    obtain ⟨rfl, rfl⟩ : v1 = 0 ∧ v2 = 1 := by unfold addRes at hv; rw [if_neg e0] at hv; simpa [eq_comm] using hv
    have e0n : (listPart n F0 F1 F2) = false := by simpa using e0
    clear hv e0
    go_enter Try.func38, Try.ntmps38
    go_wp2_with fail
    refine (ValidPart_any _ _ F0 F1 F2 _ _ hn H1.out HS0.out).mono ?_
    rintro e w1 ⟨rfl, hb1⟩
    go_wp2_with (first | (go_at_call 61; refine (within_any _ _ _ _).mono ?_; rintro e w' ⟨rfl, rfl⟩) | go_in)
    go_ret2
    exact ⟨rfl, hb1⟩
  by_cases e1 : inB at_ 0 8000 = true
  case neg =>
    obtain ⟨rfl, rfl⟩ : v1 = 0 ∧ v2 = 2 := by unfold addRes at hv; rw [if_pos e0, if_neg e1] at hv; simpa [eq_comm] using hv
    have e1n : (inB at_ 0 8000) = false := by simpa using e1
    clear hv e1
    go_enter Try.func38, Try.ntmps38
    go_wp2_with fail
    refine (ValidPart_any _ _ F0 F1 F2 _ _ hn H1.out HS0.out).mono ?_
    rintro e w1 ⟨rfl, hb1⟩
    go_wp2_with (first | (go_at_call 61; refine (within_any _ _ _ _).mono ?_; rintro e w' ⟨rfl, rfl⟩) | go_in)
    go_ret2
    exact ⟨rfl, hb1⟩
  by_cases e2 : inB ba 0 8000 = true
  case neg =>
    obtain ⟨rfl, rfl⟩ : v1 = 0 ∧ v2 = 2 := by unfold addRes at hv; rw [if_pos e0, if_pos e1, if_neg e2] at hv; simpa [eq_comm] using hv
    have e2n : (inB ba 0 8000) = false := by simpa using e2
    clear hv e2
    go_enter Try.func38, Try.ntmps38
    go_wp2_with fail
    refine (ValidPart_any _ _ F0 F1 F2 _ _ hn H1.out HS0.out).mono ?_
    rintro e w1 ⟨rfl, hb1⟩
    go_wp2_with (first | (go_at_call 61; refine (within_any _ _ _ _).mono ?_; rintro e w' ⟨rfl, rfl⟩) | go_in)
    go_ret2
    exact ⟨rfl, hb1⟩
  replace hv : (addVal (ba * (sumAll (fun k => F2 k) n) - (sumAll (fun k => wrap64 (F2 k * F1 k)) n)) at_ ba) = (v1, v2) := by unfold addRes at hv; rw [if_pos e0, if_pos e1, if_pos e2] at hv; exact hv
  have HV := Lib.hid hv
  clear hv
  go_enter Try.func38, Try.ntmps38
  go_wp2_with fail
  refine (ValidPart_any _ _ F0 F1 F2 _ _ hn H1.out HS0.out).mono ?_
  rintro e w1 ⟨rfl, hb1⟩
  have H2 := Lib.hid (row_below H1.out hb1 H1.out.lt)
  go_wp2_with (first | (go_at_call 61; refine (within_any _ _ _ _).mono ?_; rintro e w' ⟨rfl, rfl⟩) | (go_at_call 69; go_in))
  refine (weigh_any _ _ F0 F1 F2 _ _ hn H2.out).mono ?_
  rintro e w2 ⟨rfl, hb2⟩
  have hbd := mass_bd e0
  obtain ⟨⟨m1, m2⟩, ⟨q1, q2⟩⟩ := hbd
  have hv := HV.out
  clear HV
  generalize (sumAll (fun k => F2 k) n) = M1 at *
  generalize (sumAll (fun k => wrap64 (F2 k * F1 k)) n) = M2 at *
  obtain ⟨ta1, ta2⟩ := inB_true e1
  obtain ⟨tb1, tb2⟩ := inB_true e2
  have hp1 : 0 ≤ ba * M1 := Int.mul_nonneg (by omega) (by omega)
  have hp2 : ba * M1 ≤ 8000 * 1200000 := Int.mul_le_mul (by omega) (by omega) (by omega) (by omega)
  have HE := Lib.hid e0
  clear e0 e1 e2
  clear HE
  by_cases a1 : ba * M1 - M2 ≤ 0
  · have a1b : ba * M1 ≤ M2 := by omega
    have hv2 : v1 = 0 ∧ v2 = 0 := by unfold addVal at hv; rw [if_pos a1] at hv; simpa [eq_comm] using hv
    clear hv
    obtain ⟨rfl, rfl⟩ := hv2
    go_wp2_with go_in
    go_ret2
    exact ⟨rfl, hb1.trans (hb2.mono hb1.size)⟩
  · have a1b : ¬ ba * M1 ≤ M2 := by omega
    have a1c : M2 < ba * M1 := by omega
    have a1d : 0 < ba * M1 - M2 := by omega
    by_cases a2 : at_ ≤ ba
    · have hv2 : v1 = 0 ∧ v2 = 3 := by unfold addVal at hv; rw [if_neg a1, if_pos a2] at hv; simpa [eq_comm] using hv
      clear hv
      obtain ⟨rfl, rfl⟩ := hv2
      clear a1
      go_wp2_with go_in
      go_ret2
      exact ⟨rfl, hb1.trans (hb2.mono hb1.size)⟩
    · have a2b : ba < at_ := by omega
      have hq := div_le_self' (a := ba * M1 - M2 + at_ - ba - 1) (b := at_ - ba) (by omega) (by omega)
      obtain ⟨hq1, hq2⟩ := hq
      by_cases a3 : 100000 < (ba * M1 - M2 + at_ - ba - 1) / (at_ - ba)
      · have hv2 : v1 = 0 ∧ v2 = 5 := by unfold addVal at hv; rw [if_neg a1, if_neg a2, if_pos a3] at hv; simpa [eq_comm] using hv
        clear hv
        obtain ⟨rfl, rfl⟩ := hv2
        clear a1 a2
        go_wp2_with go_in
        go_ret2
        exact ⟨rfl, hb1.trans (hb2.mono hb1.size)⟩
      · have hv2 : v1 = (ba * M1 - M2 + at_ - ba - 1) / (at_ - ba) ∧ v2 = 0 := by unfold addVal at hv; rw [if_neg a1, if_neg a2, if_neg a3] at hv; simpa [eq_comm] using hv
        clear hv
        obtain ⟨rfl, rfl⟩ := hv2
        clear a1 a2
        go_wp2_with go_in
        go_ret2
        exact ⟨rfl, hb1.trans (hb2.mono hb1.size)⟩
end Go.Proofs.Ytkoijgeacekeaaa
