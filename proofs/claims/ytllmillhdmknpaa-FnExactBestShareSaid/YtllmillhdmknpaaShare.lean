/- The contracts of BestShare. -/
import Derived.Test.YtllmillhdmknpaaModeV
import Derived.Test.YtllmillhdmknpaaStrong
import Derived.Test.YtllmillhdmknpaaSums
import Derived.Test.YtllmillhdmknpaaMore
namespace Go.Proofs.Ytllmillhdmknpaa
open Go.RowKit
attribute [local go_sem ↓] Go.wp_at_zero Go.wp_at_succ
set_option linter.unusedVariables false

attribute [local go_sem high] run_max2

/-- How far a tone at a share is from another one. -/
def offV (t want s : Int) : Int := max (rdiv (t * s) 1000 - want) (want - rdiv (t * s) 1000)

theorem ts_bd {t s : Int} (a1 : 1000 ≤ t) (a2 : t ≤ 100000) (b1 : 500 ≤ s) (b2 : s ≤ 1500) : 0 ≤ t * s ∧ t * s ≤ 150000000 := by
  have h1 : 0 ≤ t * s := Int.mul_nonneg (by omega) (by omega)
  have h2 : t * s ≤ 100000 * 1500 := Int.mul_le_mul a2 b2 (by omega) (by omega)
  exact ⟨h1, by omega⟩

set_option maxHeartbeats 400000 in
theorem distance_any (a b : Int) (w : World) (ha : -1000000000000 ≤ a) (ha2 : a ≤ 1000000000000) (hb : -1000000000000 ≤ b) (hb2 : b ≤ 1000000000000) :
    Calls Try.prog 134 #[.int .i64 a, .int .i64 b] w fun e w' => e = .returned (.int .i64 (max (a - b) (b - a))) ∧ w = w' := by
  go_enter Try.func134, Try.ntmps134
  go_wp2
  go_ret
  exact ⟨rfl, rfl⟩

set_option maxHeartbeats 400000 in
theorem l08Abs_any (a : Int) (w : World) (ha : -1000000000000 ≤ a) (ha2 : a ≤ 1000000000000) :
    Calls Try.prog 129 #[.int .i64 a] w fun e w' => e = .returned (.int .i64 (max a (-a))) ∧ w = w' := by
  go_enter Try.func129, Try.ntmps129
  go_wp2_with (go_at_call 74; refine (l00Max_any _ _ _).mono ?_; rintro e w' ⟨rfl, rfl⟩)
  go_ret
  exact ⟨rfl, rfl⟩

theorem calls_int {P : Program} {f : FuncId} {args : Array Value} {w : World} {x b : Int} (h : Calls P f args w fun e w' => e = .returned (.int .i64 x) ∧ w = w') (hb : x = b) :
    Calls P f args w fun e w' => e = .returned (.int .i64 b) ∧ w = w' := hb ▸ h

set_option maxHeartbeats 1000000 in
theorem off_any (s t want : Int) (b1 b2 g n c : Nat) (w : World) (hn : (0 : Int) < (n : Int)) (ht1 : 1000 ≤ t) (ht2 : t ≤ 100000) (hs1 : 500 ≤ s) (hs2 : s ≤ 1500) (hw1 : 1000 ≤ want) (hw2 : want ≤ 100000) (c1 : w.cell? ⟨b1, 0, none⟩ = some (.slice (some ⟨g, 0, none⟩) n c)) (c2 : w.cell? ⟨b2, 0, none⟩ = some (.int .i64 want)) (c3 : w.cell? ⟨g, 1, none⟩ = some (.int .i64 t)) :
    Calls Try.prog 133 #[.int .i64 s, .pointer (some ⟨b1, 0, none⟩), .pointer (some ⟨b2, 0, none⟩)] w fun e w' => e = .returned (.int .i64 (offV t want s)) ∧ ∃ q, w' = w.drewN q := by
  obtain ⟨h1, h2⟩ := ts_bd ht1 ht2 hs1 hs2
  obtain ⟨h3, h4⟩ := rdiv_bd (a := t * s) (b := 1000) h1 (by omega)
  go_enter Try.func133, Try.ntmps133
  go_wp2
  go_big_quiet (first | (go_at_call 78; exact still_quiet (divRound_any _ _ _ (by omega) (by omega) (by omega) (by omega))) | (go_at_call 134; exact still_quiet (distance_any _ _ _ (by omega) (by omega) (by omega) (by omega))))
  go_wp2
  go_ret
  exact ⟨by unfold offV; rfl, _, rfl⟩

/-- What the function hands back. -/
def shareRes (n : Nat) (F0 : Nat → ByteArray) (F1 : Nat → Int) (F2 : Nat → Int) (want : Int) : Int × Int := (if listMode n F0 F1 F2 = true then (if inB want 1000 100000 = true then (if (!decide (n = 0)) = true then (500 + ((bestTo (fun j => -(offV (F1 0) want (500 + (j : Int)))) 1001 : Nat) : Int), 0) else (0, 3)) else (0, 2)) else (0, 1))

theorem tone_bd {n : Nat} {F0 : Nat → ByteArray} {F1 : Nat → Int} {F2 : Nat → Int} (h : listMode n F0 F1 F2 = true) (k : Nat) (hk : k < n) : 1000 ≤ F1 k ∧ F1 k ≤ 100000 := by
  have h1 := listMode_at h k hk
  unfold vMode at h1
  simp only [Bool.and_eq_true] at h1
  exact inB_true h1.2.1

set_option maxHeartbeats 4000000 in
theorem implBestShare_any (g n : Nat) (F0 : Nat → ByteArray) (F1 : Nat → Int) (F2 : Nat → Int) (want v1 v2 : Int) (w : World) (t1 : TypeId) (hn : n ≤ 1048576) (h1 : w.rowIs g t1 (n * 3) (flat 3 (rowMode F0 F1 F2))) (hS0 : ∀ i, i < n → (F0 i).size ≤ maxLen) (hv : shareRes n F0 F1 F2 want = (v1, v2)) :
    Calls Try.prog 64 #[.slice (some ⟨g, 0, none⟩) n n, .int .i64 want] w fun e w' => e = .returned (.tuple #[.int .i64 v1, .int .i64 v2]) ∧ Below w.heap.size w w' := by
  have hl1 := h1.lt
  have HR1 := Lib.hid (RdMode.of_row h1)
  have H1 := Lib.hid h1
  have HS0 := Lib.hid hS0
  clear h1 hS0
  by_cases e0 : listMode n F0 F1 F2 = true
  case neg =>
    obtain ⟨rfl, rfl⟩ : v1 = 0 ∧ v2 = 1 := by unfold shareRes at hv; rw [if_neg e0] at hv; simpa [eq_comm] using hv
    have e0n : (listMode n F0 F1 F2) = false := by simpa using e0
    clear hv e0
    go_enter Try.func64, Try.ntmps64
    go_wp2_with fail
    refine (ValidMode_any _ _ F0 F1 F2 _ _ hn ((H1.out.alloc _).alloc _) HS0.out).mono ?_
    rintro e w1 ⟨rfl, hb1⟩
    have C1 := ((below_new w (.cells #[.slice (some ⟨g, 0, none⟩) n n] 95)).alloc (by simp) (.cells #[.int .i64 want] 2)).trans (hb1.mono (by simp; omega))
    have b1 : w1.cell? ⟨w.heap.size, 0, none⟩ = some (.slice (some ⟨g, 0, none⟩) n n) := (bcell hb1 _ _ (by simp; omega)).trans (by simp)
    have b2 : w1.cell? ⟨w.heap.size + 1, 0, none⟩ = some (.int .i64 want) := (bcell hb1 _ _ (by simp)).trans (by simp)
    have hs1 : w.heap.size + 1 < w1.heap.size := by have := hb1.size; simp at this; omega
    go_wp2_with (first | (go_at_call 77; refine (within_any _ _ _ _).mono ?_; rintro e w' ⟨rfl, rfl⟩) | go_in)
    go_ret2
    exact ⟨rfl, C1⟩
  by_cases e1 : inB want 1000 100000 = true
  case neg =>
    obtain ⟨rfl, rfl⟩ : v1 = 0 ∧ v2 = 2 := by unfold shareRes at hv; rw [if_pos e0, if_neg e1] at hv; simpa [eq_comm] using hv
    have e1n : (inB want 1000 100000) = false := by simpa using e1
    clear hv e1
    go_enter Try.func64, Try.ntmps64
    go_wp2_with fail
    refine (ValidMode_any _ _ F0 F1 F2 _ _ hn ((H1.out.alloc _).alloc _) HS0.out).mono ?_
    rintro e w1 ⟨rfl, hb1⟩
    have C1 := ((below_new w (.cells #[.slice (some ⟨g, 0, none⟩) n n] 95)).alloc (by simp) (.cells #[.int .i64 want] 2)).trans (hb1.mono (by simp; omega))
    have b1 : w1.cell? ⟨w.heap.size, 0, none⟩ = some (.slice (some ⟨g, 0, none⟩) n n) := (bcell hb1 _ _ (by simp; omega)).trans (by simp)
    have b2 : w1.cell? ⟨w.heap.size + 1, 0, none⟩ = some (.int .i64 want) := (bcell hb1 _ _ (by simp)).trans (by simp)
    have hs1 : w.heap.size + 1 < w1.heap.size := by have := hb1.size; simp at this; omega
    go_wp2_with (first | (go_at_call 77; refine (within_any _ _ _ _).mono ?_; rintro e w' ⟨rfl, rfl⟩) | go_in)
    go_ret2
    exact ⟨rfl, C1⟩
  by_cases e2 : (!decide (n = 0)) = true
  case neg =>
    obtain ⟨rfl, rfl⟩ : v1 = 0 ∧ v2 = 3 := by unfold shareRes at hv; rw [if_pos e0, if_pos e1, if_neg e2] at hv; simpa [eq_comm] using hv
    have e2n : ((!decide (n = 0))) = false := by simpa using e2
    have q1 : n = 0 := by simpa using e2n
    have q2 : ((n : Int) == 0) = true := by simp; omega
    clear e2n q1
    clear hv e2
    go_enter Try.func64, Try.ntmps64
    go_wp2_with fail
    refine (ValidMode_any _ _ F0 F1 F2 _ _ hn ((H1.out.alloc _).alloc _) HS0.out).mono ?_
    rintro e w1 ⟨rfl, hb1⟩
    have C1 := ((below_new w (.cells #[.slice (some ⟨g, 0, none⟩) n n] 95)).alloc (by simp) (.cells #[.int .i64 want] 2)).trans (hb1.mono (by simp; omega))
    have b1 : w1.cell? ⟨w.heap.size, 0, none⟩ = some (.slice (some ⟨g, 0, none⟩) n n) := (bcell hb1 _ _ (by simp; omega)).trans (by simp)
    have b2 : w1.cell? ⟨w.heap.size + 1, 0, none⟩ = some (.int .i64 want) := (bcell hb1 _ _ (by simp)).trans (by simp)
    have hs1 : w.heap.size + 1 < w1.heap.size := by have := hb1.size; simp at this; omega
    go_wp2_with (first | (go_at_call 77; refine (within_any _ _ _ _).mono ?_; rintro e w' ⟨rfl, rfl⟩) | go_in)
    go_ret2
    exact ⟨rfl, C1⟩
  replace hv : (500 + ((bestTo (fun j => -(offV (F1 0) want (500 + (j : Int)))) 1001 : Nat) : Int), 0) = (v1, v2) := by unfold shareRes at hv; rw [if_pos e0, if_pos e1, if_pos e2] at hv; exact hv
  have q1 : ¬ n = 0 := by simpa using e2
  have q2 : ((n : Int) == 0) = false := by simp; omega
  have q3 : 0 < n := by omega
  clear e2 q1
  have HV := Lib.hid hv
  clear hv
  obtain ⟨t1b, t2b⟩ := tone_bd e0 0 q3
  obtain ⟨y1, y2⟩ := inB_true e1
  obtain ⟨_, a1, _⟩ := HR1.out 0 q3
  simp only [Nat.zero_add, Nat.zero_mul] at a1
  have hn0 : (0 : Int) < (n : Int) := by omega
  go_enter Try.func64, Try.ntmps64
  go_wp2_with fail
  refine (ValidMode_any _ _ F0 F1 F2 _ _ hn ((H1.out.alloc _).alloc _) HS0.out).mono ?_
  rintro e w1 ⟨rfl, hb1⟩
  have C1 := ((below_new w (.cells #[.slice (some ⟨g, 0, none⟩) n n] 95)).alloc (by simp) (.cells #[.int .i64 want] 2)).trans (hb1.mono (by simp; omega))
  have b1 : w1.cell? ⟨w.heap.size, 0, none⟩ = some (.slice (some ⟨g, 0, none⟩) n n) := (bcell hb1 _ _ (by simp; omega)).trans (by simp)
  have b2 : w1.cell? ⟨w.heap.size + 1, 0, none⟩ = some (.int .i64 want) := (bcell hb1 _ _ (by simp)).trans (by simp)
  have hs1 : w.heap.size + 1 < w1.heap.size := by have := hb1.size; simp at this; omega
  go_wp2_with (first | (go_at_call 77; refine (within_any _ _ _ _).mono ?_; rintro e w' ⟨rfl, rfl⟩) | go_in)
  go_loopw [7, 8] (fun v i wr => ∃ (k b : Nat) (s bs : Int), k ≤ 1001 ∧ b < 1001 ∧ i = .int .i64 s ∧ v = .int .i64 bs ∧ Hid (s = 500 + (k : Int)) ∧ Hid (bs = 500 + (b : Int)) ∧ 500 ≤ s ∧ s ≤ 1501 ∧ 500 ≤ bs ∧ bs ≤ 1500 ∧ Hid (b = bestTo (fun j => -(offV (F1 0) want (500 + (j : Int)))) k) ∧ Below ((w.alloc (.cells #[.slice (some ⟨g, 0, none⟩) n n] 95)).alloc (.cells #[.int .i64 want] 2)).heap.size ((w.alloc (.cells #[.slice (some ⟨g, 0, none⟩) n n] 95)).alloc (.cells #[.int .i64 want] 2)) wr) (fun _ i _ => (1501 - intOf i).toNat)
  case atStart => exact ⟨0, 0, 500, 500, by omega, by omega, rfl, rfl, rfl, rfl, by omega, by omega, by omega, by omega, rfl, hb1⟩
  case round =>
    obtain ⟨k, b, s, bs, hk, hbn, rfl, rfl, hs, hbs, s1, s2, s3, s4, hbest, hbel⟩ := hrel
    have HS1 : Hid (s = 500 + (k : Int)) := hs
    have HS2 : Hid (bs = 500 + (b : Int)) := hbs
    clear hs hbs
    by_cases hlt : k < 1001
    · have s5 : s ≤ 1500 := by have := HS1.out; omega
      have d1 : wr.cell? ⟨w.heap.size, 0, none⟩ = some (.slice (some ⟨g, 0, none⟩) n n) := (bcell hbel _ _ (by simp; omega)).trans (by simp)
      have d2 : wr.cell? ⟨w.heap.size + 1, 0, none⟩ = some (.int .i64 want) := (bcell hbel _ _ (by simp)).trans (by simp)
      have d3 : wr.cell? ⟨g, 1, none⟩ = some (.int .i64 (F1 0)) := (bcell hbel _ _ (by simp; omega)).trans (by rw [World.cell?_alloc_lt _ _ _ (by simp; omega), World.cell?_alloc_lt _ _ _ hl1]; exact a1)
      by_cases hc : offV (F1 0) want s < offV (F1 0) want bs
      · have HB := Lib.hid (show Hid (k = bestTo (fun j => -(offV (F1 0) want (500 + (j : Int)))) (k + 1)) by have h := hbest.out; show _ = _; rw [bestTo_yes (by rw [← h]; show -(offV (F1 0) want (500 + (b : Int))) < -(offV (F1 0) want (500 + (k : Int))); rw [← HS1.out, ← HS2.out]; omega)])
        have hcd : decide (offV (F1 0) want s < offV (F1 0) want bs) = true := by simpa using hc
        clear hbest
        have HS3 := Lib.hid (show Hid (s + 1 = 500 + ((k + 1 : Nat) : Int)) from (by rw [HS1.out]; omega : s + 1 = 500 + ((k + 1 : Nat) : Int)))
        go_wp2_with fail
        refine (off_any s (F1 0) want _ _ g n n _ hn0 t1b t2b (by omega) (by omega) y1 y2 d1 d2 d3).mono ?_
        rintro e w2 ⟨rfl, qa, rfl⟩
        go_wp2_with fail
        refine (off_any bs (F1 0) want _ _ g n n _ hn0 t1b t2b (by omega) (by omega) y1 y2 (by simpa using d1) (by simpa using d2) (by simpa using d3)).mono ?_
        rintro e w3 ⟨rfl, qb, rfl⟩
        go_wp2
        go_roundw
        case rel => first | exact ⟨k + 1, k, s + 1, s, by omega, by omega, by go_num, rfl, HS3.out, HS1.out, by omega, by omega, by omega, by omega, HB.out, below_drewN hbel _⟩ | ((repeat apply Exists.intro); exact ⟨⟨k + 1, k, s + 1, s, by omega, by omega, by go_num, rfl, HS3.out, HS1.out, by omega, by omega, by omega, by omega, HB.out, below_drewN hbel _⟩, rfl⟩)
        case measure => (simp [intOf]; try omega)
      · have HB := Lib.hid (show Hid (b = bestTo (fun j => -(offV (F1 0) want (500 + (j : Int)))) (k + 1)) by have h := hbest.out; show _ = _; rw [bestTo_no (by rw [← h]; show ¬ -(offV (F1 0) want (500 + (b : Int))) < -(offV (F1 0) want (500 + (k : Int))); rw [← HS1.out, ← HS2.out]; omega)]; exact h)
        have hcd : decide (offV (F1 0) want s < offV (F1 0) want bs) = false := by simpa using hc
        clear hbest
        have HS3 := Lib.hid (show Hid (s + 1 = 500 + ((k + 1 : Nat) : Int)) from (by rw [HS1.out]; omega : s + 1 = 500 + ((k + 1 : Nat) : Int)))
        go_wp2_with fail
        refine (off_any s (F1 0) want _ _ g n n _ hn0 t1b t2b (by omega) (by omega) y1 y2 d1 d2 d3).mono ?_
        rintro e w2 ⟨rfl, qa, rfl⟩
        go_wp2_with fail
        refine (off_any bs (F1 0) want _ _ g n n _ hn0 t1b t2b (by omega) (by omega) y1 y2 (by simpa using d1) (by simpa using d2) (by simpa using d3)).mono ?_
        rintro e w3 ⟨rfl, qb, rfl⟩
        go_wp2
        go_roundw
        case rel => first | exact ⟨k + 1, b, s + 1, bs, by omega, by omega, by go_num, rfl, HS3.out, HS2.out, by omega, by omega, by omega, by omega, HB.out, below_drewN hbel _⟩ | ((repeat apply Exists.intro); exact ⟨⟨k + 1, b, s + 1, bs, by omega, by omega, by go_num, rfl, HS3.out, HS2.out, by omega, by omega, by omega, by omega, HB.out, below_drewN hbel _⟩, rfl⟩)
        case measure => (simp [intOf]; try omega)
    · have hk2 : s = 1501 := by have := HS1.out; omega
      obtain rfl : k = 1001 := by omega
      subst hk2
      have hv := HV.out
      simp only [Prod.mk.injEq] at hv
      rw [← hbest.out, ← HS2.out] at hv
      obtain ⟨rfl, rfl⟩ := hv
      go_wp2
      go_ret2
      exact ⟨rfl, ((below_new w (.cells #[.slice (some ⟨g, 0, none⟩) n n] 95)).alloc (by simp) (.cells #[.int .i64 want] 2)).trans (hbel.mono (by simp; omega))⟩

set_option maxHeartbeats 2000000 in
theorem specBestShare_any (g n : Nat) (F0 : Nat → ByteArray) (F1 : Nat → Int) (F2 : Nat → Int) (want : Int) (v1 : Int) (v2 : Int) (w : World) (t1 : TypeId) (hn : n ≤ 1048576) (h1 : w.rowIs g t1 (n * 3) (flat 3 (rowMode F0 F1 F2))) (hS0 : ∀ i, i < n → (F0 i).size ≤ maxLen)  (hv : shareRes n F0 F1 F2 want = (v1, v2)) :
    Calls Try.prog 62 #[.slice (some ⟨g, 0, none⟩) n n, .int .i64 want] w fun e w' => e = .returned (.tuple #[.int .i64 v1, .int .i64 v2]) ∧ Below w.heap.size w w' := by
  have hl1 := h1.lt
  have HR1 := Lib.hid (RdMode.of_row h1)
  have H1 := Lib.hid h1
  have HS0 := Lib.hid hS0
  clear h1 hS0
  by_cases e0 : listMode n F0 F1 F2 = true
  case neg =>
    obtain ⟨rfl, rfl⟩ : v1 = 0 ∧ v2 = 1 := by unfold shareRes at hv; rw [if_neg e0] at hv; simpa [eq_comm] using hv
    have e0n : (listMode n F0 F1 F2) = false := by simpa using e0
    clear hv e0
    go_enter Try.func62, Try.ntmps62
    go_wp2_with fail
    refine (OkMode_any _ _ F0 F1 F2 _ _ hn H1.out HS0.out).mono ?_
    rintro e w1 ⟨rfl, hb1⟩
    go_wp2_with (first | (go_at_call 73; refine (l00In_any _ _ _ _).mono ?_; rintro e w' ⟨rfl, rfl⟩) | go_in)
    go_ret2
    exact ⟨rfl, hb1⟩
  by_cases e1 : inB want 1000 100000 = true
  case neg =>
    obtain ⟨rfl, rfl⟩ : v1 = 0 ∧ v2 = 2 := by unfold shareRes at hv; rw [if_pos e0, if_neg e1] at hv; simpa [eq_comm] using hv
    have e1n : (inB want 1000 100000) = false := by simpa using e1
    clear hv e1
    go_enter Try.func62, Try.ntmps62
    go_wp2_with fail
    refine (OkMode_any _ _ F0 F1 F2 _ _ hn H1.out HS0.out).mono ?_
    rintro e w1 ⟨rfl, hb1⟩
    go_wp2_with (first | (go_at_call 73; refine (l00In_any _ _ _ _).mono ?_; rintro e w' ⟨rfl, rfl⟩) | go_in)
    go_ret2
    exact ⟨rfl, hb1⟩
  by_cases e2 : (!decide (n = 0)) = true
  case neg =>
    obtain ⟨rfl, rfl⟩ : v1 = 0 ∧ v2 = 3 := by unfold shareRes at hv; rw [if_pos e0, if_pos e1, if_neg e2] at hv; simpa [eq_comm] using hv
    have e2n : ((!decide (n = 0))) = false := by simpa using e2
    have q1 : n = 0 := by simpa using e2n
    have q2 : ((n : Int) == 0) = true := by simp; omega
    clear e2n q1
    clear hv e2
    go_enter Try.func62, Try.ntmps62
    go_wp2_with fail
    refine (OkMode_any _ _ F0 F1 F2 _ _ hn H1.out HS0.out).mono ?_
    rintro e w1 ⟨rfl, hb1⟩
    go_wp2_with (first | (go_at_call 73; refine (l00In_any _ _ _ _).mono ?_; rintro e w' ⟨rfl, rfl⟩) | go_in)
    go_ret2
    exact ⟨rfl, hb1⟩
  replace hv : (500 + ((bestTo (fun j => -(offV (F1 0) want (500 + (j : Int)))) 1001 : Nat) : Int), 0) = (v1, v2) := by unfold shareRes at hv; rw [if_pos e0, if_pos e1, if_pos e2] at hv; exact hv
  have q1 : ¬ n = 0 := by simpa using e2
  have q2 : ((n : Int) == 0) = false := by simp; omega
  have q3 : 0 < n := by omega
  clear e2 q1
  have HV := Lib.hid hv
  clear hv
  go_enter Try.func62, Try.ntmps62
  go_wp2_with fail
  refine (OkMode_any _ _ F0 F1 F2 _ _ hn H1.out HS0.out).mono ?_
  rintro e w1 ⟨rfl, hb1⟩
  have H2 := Lib.hid (row_below H1.out hb1 H1.out.lt)
  obtain ⟨t1b, t2b⟩ := tone_bd e0 0 q3
  obtain ⟨y1, y2⟩ := inB_true e1
  obtain ⟨_, a1, _⟩ := HR1.out 0 q3
  simp only [Nat.zero_add, Nat.zero_mul] at a1
  have hn0 : (0 : Int) < (n : Int) := by omega
  go_wp2_with (first | (go_at_call 73; refine (l00In_any _ _ _ _).mono ?_; rintro e w' ⟨rfl, rfl⟩) | go_in)
  go_loopw [6, 7] (fun v i wr => ∃ (k b : Nat) (s bs : Int), k ≤ 1001 ∧ b < 1001 ∧ i = .int .i64 s ∧ v = .int .i64 bs ∧ Hid (s = 500 + (k : Int)) ∧ Hid (bs = 500 + (b : Int)) ∧ 500 ≤ s ∧ s ≤ 1501 ∧ 500 ≤ bs ∧ bs ≤ 1500 ∧ Hid (b = bestTo (fun j => -(offV (F1 0) want (500 + (j : Int)))) k) ∧ Below w.heap.size w wr) (fun _ i _ => (1501 - intOf i).toNat)
  case atStart => exact ⟨1, 0, 501, 500, by omega, by omega, rfl, rfl, rfl, rfl, by omega, by omega, by omega, by omega, (bestTo_one _).symm, hb1⟩
  case round =>
    obtain ⟨k, b, s, bs, hk, hbn, rfl, rfl, hs, hbs, s1, s2, s3, s4, hbest, hbel⟩ := hrel
    have HS1 : Hid (s = 500 + (k : Int)) := hs
    have HS2 : Hid (bs = 500 + (b : Int)) := hbs
    clear hs hbs
    by_cases hlt : k < 1001
    · have s5 : s ≤ 1500 := by have := HS1.out; omega
      have d3 : wr.cell? ⟨g, 1, none⟩ = some (.int .i64 (F1 0)) := (bcell hbel _ _ hl1).trans a1
      obtain ⟨h1, h2⟩ := ts_bd t1b t2b s1 s5
      obtain ⟨h3, h4⟩ := rdiv_bd (a := F1 0 * s) (b := 1000) h1 (by omega)
      obtain ⟨h5, h6⟩ := ts_bd t1b t2b s3 s4
      obtain ⟨h7, h8⟩ := rdiv_bd (a := F1 0 * bs) (b := 1000) h5 (by omega)
      have o1 : max (rdiv (F1 0 * s) 1000 - want) (-(rdiv (F1 0 * s) 1000 - want)) = offV (F1 0) want s := by unfold offV; rw [Int.neg_sub]
      have o2 : max (rdiv (F1 0 * bs) 1000 - want) (-(rdiv (F1 0 * bs) 1000 - want)) = offV (F1 0) want bs := by unfold offV; rw [Int.neg_sub]
      by_cases hc : offV (F1 0) want s < offV (F1 0) want bs
      · have HB := Lib.hid (show Hid (k = bestTo (fun j => -(offV (F1 0) want (500 + (j : Int)))) (k + 1)) by have h := hbest.out; show _ = _; rw [bestTo_yes (by rw [← h]; show -(offV (F1 0) want (500 + (b : Int))) < -(offV (F1 0) want (500 + (k : Int))); rw [← HS1.out, ← HS2.out]; omega)])
        have hcd : decide (offV (F1 0) want s < offV (F1 0) want bs) = true := by simpa using hc
        clear hbest
        have HS3 := Lib.hid (show Hid (s + 1 = 500 + ((k + 1 : Nat) : Int)) from (by rw [HS1.out]; omega : s + 1 = 500 + ((k + 1 : Nat) : Int)))
        go_wp2
        go_big_quiet (first | (go_at_call 75; exact still_quiet (l01Div_any _ _ _ (by omega) (by omega) (by omega) (by omega))) | (go_at_call 129; first | exact still_quiet (calls_int (l08Abs_any _ _ (by omega) (by omega)) o1) | exact still_quiet (calls_int (l08Abs_any _ _ (by omega) (by omega)) o2)))
        go_wp2
        go_roundw
        case rel => first | exact ⟨k + 1, k, s + 1, s, by omega, by omega, by go_num, rfl, HS3.out, HS1.out, by omega, by omega, by omega, by omega, HB.out, below_drewN hbel _⟩ | ((repeat apply Exists.intro); exact ⟨⟨k + 1, k, s + 1, s, by omega, by omega, by go_num, rfl, HS3.out, HS1.out, by omega, by omega, by omega, by omega, HB.out, below_drewN hbel _⟩, rfl⟩)
        case measure => (simp [intOf]; try omega)
      · have HB := Lib.hid (show Hid (b = bestTo (fun j => -(offV (F1 0) want (500 + (j : Int)))) (k + 1)) by have h := hbest.out; show _ = _; rw [bestTo_no (by rw [← h]; show ¬ -(offV (F1 0) want (500 + (b : Int))) < -(offV (F1 0) want (500 + (k : Int))); rw [← HS1.out, ← HS2.out]; omega)]; exact h)
        have hcd : decide (offV (F1 0) want s < offV (F1 0) want bs) = false := by simpa using hc
        clear hbest
        have HS3 := Lib.hid (show Hid (s + 1 = 500 + ((k + 1 : Nat) : Int)) from (by rw [HS1.out]; omega : s + 1 = 500 + ((k + 1 : Nat) : Int)))
        go_wp2
        go_big_quiet (first | (go_at_call 75; exact still_quiet (l01Div_any _ _ _ (by omega) (by omega) (by omega) (by omega))) | (go_at_call 129; first | exact still_quiet (calls_int (l08Abs_any _ _ (by omega) (by omega)) o1) | exact still_quiet (calls_int (l08Abs_any _ _ (by omega) (by omega)) o2)))
        go_wp2
        go_roundw
        case rel => first | exact ⟨k + 1, b, s + 1, bs, by omega, by omega, by go_num, rfl, HS3.out, HS2.out, by omega, by omega, by omega, by omega, HB.out, below_drewN hbel _⟩ | ((repeat apply Exists.intro); exact ⟨⟨k + 1, b, s + 1, bs, by omega, by omega, by go_num, rfl, HS3.out, HS2.out, by omega, by omega, by omega, by omega, HB.out, below_drewN hbel _⟩, rfl⟩)
        case measure => (simp [intOf]; try omega)
    · have hk2 : s = 1501 := by have := HS1.out; omega
      obtain rfl : k = 1001 := by omega
      subst hk2
      have hv := HV.out
      simp only [Prod.mk.injEq] at hv
      rw [← hbest.out, ← HS2.out] at hv
      obtain ⟨rfl, rfl⟩ := hv
      go_wp2
      go_ret2
      exact ⟨rfl, hbel⟩
end Go.Proofs.Ytllmillhdmknpaa
