/- The contracts of ClosestModes. -/
import Derived.Test.YtlpjjhjbejjddaaModeV
import Derived.Test.YtlpjjhjbejjddaaSums
import Derived.Test.YtlpjjhjbejjddaaMore
namespace Go.Proofs.Ytlpjjhjbejjddaa
open Go.RowKit
attribute [local go_sem ↓] Go.wp_at_zero Go.wp_at_succ
set_option linter.unusedVariables false

/-- The distance of two numbers. -/
def distV (a b : Int) : Int := if a < b then b - a else a - b

set_option maxHeartbeats 400000 in
theorem distance_any (a b : Int) (w : World) (h1 : 0 ≤ a) (h2 : a ≤ 1000000) (h3 : 0 ≤ b) (h4 : b ≤ 1000000) :
    Calls Try.prog 68 #[.int .i64 a, .int .i64 b] w fun e w' => e = .returned (.int .i64 (distV a b)) ∧ w = w' := by
  by_cases h : a < b
  · have HF := Lib.hid (show distV a b = b - a by unfold distV; rw [if_pos h])
    go_enter Try.func68, Try.ntmps68
    go_wp2
    all_goals (go_ret; exact ⟨by rw [HF.out]; first | rfl | (simp; omega), rfl⟩)
  · have HF := Lib.hid (show distV a b = a - b by unfold distV; rw [if_neg h])
    go_enter Try.func68, Try.ntmps68
    go_wp2
    all_goals (go_ret; exact ⟨by rw [HF.out]; first | rfl | (simp; omega), rfl⟩)

set_option maxHeartbeats 400000 in
theorem l08Abs_any (a b : Int) (w : World) (h1 : 0 ≤ a) (h2 : a ≤ 1000000) (h3 : 0 ≤ b) (h4 : b ≤ 1000000) :
    Calls Try.prog 65 #[.int .i64 (a - b)] w fun e w' => e = .returned (.int .i64 (distV a b)) ∧ w = w' := by
  by_cases h : a < b
  · have HF := Lib.hid (show distV a b = b - a by unfold distV; rw [if_pos h])
    go_enter Try.func65, Try.ntmps65
    go_wp2
    all_goals (go_ret; exact ⟨by rw [HF.out]; first | rfl | (simp; omega), rfl⟩)
  · have HF := Lib.hid (show distV a b = a - b by unfold distV; rw [if_neg h])
    go_enter Try.func65, Try.ntmps65
    go_wp2
    all_goals (go_ret; exact ⟨by rw [HF.out]; first | rfl | (simp; omega), rfl⟩)

/-- The closest pair so far, with the pairs (i, i + 1) to (i, i + j) besides. -/
def inn (d : Nat → Nat → Int) (i : Nat) (s : Nat × Nat) : Nat → Nat × Nat
  | 0 => s
  | j + 1 => if d i (i + 1 + j) < d (inn d i s j).1 (inn d i s j).2 then (i, i + 1 + j) else inn d i s j

theorem inn_yes {d : Nat → Nat → Int} {i j : Nat} {s p : Nat × Nat} (hp : p = inn d i s j) (h : d i (i + 1 + j) < d p.1 p.2) : (i, i + 1 + j) = inn d i s (j + 1) := by
  show _ = (if _ then _ else _)
  rw [if_pos (by rw [← hp]; exact h)]

theorem inn_no {d : Nat → Nat → Int} {i j : Nat} {s p : Nat × Nat} (hp : p = inn d i s j) (h : ¬ d i (i + 1 + j) < d p.1 p.2) : p = inn d i s (j + 1) := by
  show _ = (if _ then _ else _)
  rw [if_neg (by rw [← hp]; exact h)]; exact hp

def outr (d : Nat → Nat → Int) (n : Nat) : Nat → Nat × Nat
  | 0 => (0, 1)
  | i + 1 => inn d i (outr d n i) (n - (i + 1))

theorem tone_bd {n : Nat} {F0 : Nat → ByteArray} {F1 : Nat → Int} {F2 : Nat → Int} (h : listMode n F0 F1 F2 = true) (k : Nat) (hk : k < n) : 0 ≤ F1 k ∧ F1 k ≤ 1000000 := by
  have h1 := listMode_at h k hk
  unfold vMode at h1
  simp only [Bool.and_eq_true] at h1
  have := inB_true h1.2.1
  omega

/-- What the function hands back. -/
def clRes (n : Nat) (F0 : Nat → ByteArray) (F1 : Nat → Int) (F2 : Nat → Int)  : Int × Int × Int := (if listMode n F0 F1 F2 = true then (if (!decide (n < 2)) = true then ((((outr (fun a b => distV (F1 a) (F1 b)) n n).1 : Nat) : Int), (((outr (fun a b => distV (F1 a) (F1 b)) n n).2 : Nat) : Int), 0) else (0, 0, 3)) else (0, 0, 1))

set_option maxHeartbeats 2000000 in
theorem specClosestModes_any (g n : Nat) (F0 : Nat → ByteArray) (F1 : Nat → Int) (F2 : Nat → Int)  (v1 : Int) (v2 : Int) (v3 : Int) (w : World) (t1 : TypeId) (hn : n ≤ 1048576) (h1 : w.rowIs g t1 (n * 3) (flat 3 (rowMode F0 F1 F2))) (hS0 : ∀ i, i < n → (F0 i).size ≤ maxLen)  (hv : clRes n F0 F1 F2  = (v1, v2, v3)) :
    Calls Try.prog 16 #[.slice (some ⟨g, 0, none⟩) n n] w fun e w' => e = .returned (.tuple #[.int .i64 v1, .int .i64 v2, .int .i64 v3]) ∧ Below w.heap.size w w' := by
  have hl1 := h1.lt
  have HR1 := Lib.hid (RdMode.of_row h1)
  have H1 := Lib.hid h1
  have HS0 := Lib.hid hS0
  clear h1 hS0
  by_cases e0 : listMode n F0 F1 F2 = true
  case neg =>
    obtain ⟨rfl, rfl, rfl⟩ : v1 = 0 ∧ v2 = 0 ∧ v3 = 1 := by unfold clRes at hv; rw [if_neg e0] at hv; simpa [eq_comm] using hv
    have e0n : (listMode n F0 F1 F2) = false := by simpa using e0
    clear hv e0
    go_enter Try.func16, Try.ntmps16
    go_wp2_with fail
    refine (OkMode_any _ _ F0 F1 F2 _ _ hn H1.out HS0.out).mono ?_
    rintro e w1 ⟨rfl, hb1⟩
    go_wp2_with (first | (go_at_call 124; refine (l00In_any _ _ _ _).mono ?_; rintro e w' ⟨rfl, rfl⟩) | go_in)
    go_ret3
    exact ⟨rfl, hb1⟩
  by_cases e1 : (!decide (n < 2)) = true
  case neg =>
    obtain ⟨rfl, rfl, rfl⟩ : v1 = 0 ∧ v2 = 0 ∧ v3 = 3 := by unfold clRes at hv; rw [if_pos e0, if_neg e1] at hv; simpa [eq_comm] using hv
    have e1n : ((!decide (n < 2))) = false := by simpa using e1
    have q1 : n < 2 := by simpa using e1n
    have q2 : (n : Int) < 2 := by omega
    clear e1n
    clear hv e1
    go_enter Try.func16, Try.ntmps16
    go_wp2_with fail
    refine (OkMode_any _ _ F0 F1 F2 _ _ hn H1.out HS0.out).mono ?_
    rintro e w1 ⟨rfl, hb1⟩
    go_wp2_with (first | (go_at_call 124; refine (l00In_any _ _ _ _).mono ?_; rintro e w' ⟨rfl, rfl⟩) | go_in)
    go_ret3
    exact ⟨rfl, hb1⟩
  replace hv : ((((outr (fun a b => distV (F1 a) (F1 b)) n n).1 : Nat) : Int), (((outr (fun a b => distV (F1 a) (F1 b)) n n).2 : Nat) : Int), 0) = (v1, v2, v3) := by unfold clRes at hv; rw [if_pos e0, if_pos e1] at hv; exact hv
  have q1 : ¬ n < 2 := by simpa using e1
  have q2 : decide ((n : Int) < 2) = false := by simp; omega
  have q3 : 2 ≤ n := by omega
  clear e1 q1
  have HV := Lib.hid hv
  clear hv
  go_enter Try.func16, Try.ntmps16
  go_wp2_with fail
  refine (OkMode_any _ _ F0 F1 F2 _ _ hn H1.out HS0.out).mono ?_
  rintro e w1 ⟨rfl, hb1⟩
  have H2 := Lib.hid (row_below H1.out hb1 H1.out.lt)
  have TB := Lib.hid (fun k hk => tone_bd e0 k hk)
  go_wp2
  go_loopw [5, 6, 7] (fun va vb j wr => ∃ (i a b : Nat), i ≤ n ∧ a < n ∧ b < n ∧ j = .int .i64 i ∧ va = .int .i64 a ∧ vb = .int .i64 b ∧ Hid ((a, b) = outr (fun a b => distV (F1 a) (F1 b)) n i) ∧ Below w.heap.size w wr) (fun _ _ j _ => n - (intOf j).toNat)
  case atStart => exact ⟨0, 0, 1, by omega, by omega, by omega, rfl, rfl, rfl, rfl, hb1⟩
  case round =>
    obtain ⟨i, a, b, hi, han, hbn, rfl, rfl, rfl, hst, hbel⟩ := hrel
    obtain ⟨wo, rfl⟩ : ∃ wo : World, wo = wr := ⟨_, rfl⟩
    have HST := Lib.hid hst
    clear hst
    by_cases hlt : i < n
    · have hlti : (i : Int) < (n : Int) := by omega
      have hii : (0 : Int) ≤ (i : Int) := by omega
      have hgo : g < wo.heap.size := Nat.lt_of_lt_of_le hl1 hbel.size
      obtain ⟨a0, a1, a2⟩ := HR1.out i hlt
      rw [← bcell hbel _ _ hl1] at a0 a1 a2
      simp only [Nat.zero_add] at a0 a1 a2
      obtain ⟨t1, t2⟩ := TB.out i hlt
      go_wp2
      have hW0 : Below w.heap.size w wo := hbel
      have hgW : g < wo.heap.size := by exact hgo
      have HA1 := Lib.hid a1
      clear a0 a1 a2
      go_loopw [5, 6, 8] (fun va vb q wi => ∃ (k a2 b2 : Nat), i + 1 ≤ k ∧ k ≤ n ∧ a2 < n ∧ b2 < n ∧ q = .int .i64 k ∧ va = .int .i64 a2 ∧ vb = .int .i64 b2 ∧ Hid ((a2, b2) = inn (fun a b => distV (F1 a) (F1 b)) i (a, b) (k - (i + 1))) ∧ Below wo.heap.size wo wi) (fun _ _ q _ => n - (intOf q).toNat)
      case atStart => exact ⟨i + 1, a, b, by omega, by omega, han, hbn, by go_num, rfl, rfl, by rw [Nat.sub_self]; rfl, Below.refl _ _⟩
      case round =>
        obtain ⟨k, a2, b2, hik, hk, ha2, hb2, rfl, rfl, rfl, hinn, hin⟩ := hrel
        have HIN := Lib.hid hinn
        clear hinn
        by_cases hkn : k < n
        · obtain ⟨j, rfl⟩ : ∃ j, k = i + 1 + j := ⟨k - (i + 1), by omega⟩
          have HIN2 := Lib.hid (show (a2, b2) = inn (fun a b => distV (F1 a) (F1 b)) i (a, b) j by have := HIN.out.out; rwa [show i + 1 + j - (i + 1) = j by omega] at this)
          clear HIN
          generalize hkk : i + 1 + j = k at *
          have HK := Lib.hid hkk
          clear hkk
          have hkni : (k : Int) < (n : Int) := by omega
          have hki : (0 : Int) ≤ (k : Int) := by omega
          have ha2i : (a2 : Int) < (n : Int) := by omega
          have hb2i : (b2 : Int) < (n : Int) := by omega
          have ha20 : (0 : Int) ≤ (a2 : Int) := by omega
          have hb20 : (0 : Int) ≤ (b2 : Int) := by omega
          have hbi := hW0.trans (hin.mono hW0.size)
          obtain ⟨_, c1, _⟩ := HR1.out k hkn
          rw [← bcell hbi _ _ hl1] at c1
          simp only [Nat.zero_add] at c1
          obtain ⟨ct1, ct2⟩ := TB.out k hkn
          obtain ⟨_, d1, _⟩ := HR1.out a2 ha2
          rw [← bcell hbi _ _ hl1] at d1
          simp only [Nat.zero_add] at d1
          obtain ⟨dt1, dt2⟩ := TB.out a2 ha2
          obtain ⟨_, e1, _⟩ := HR1.out b2 hb2
          rw [← bcell hbi _ _ hl1] at e1
          simp only [Nat.zero_add] at e1
          obtain ⟨et1, et2⟩ := TB.out b2 hb2
          have x1 := (bcell hin _ _ hgo).trans HA1.out
          by_cases hc : distV (F1 i) (F1 k) < distV (F1 a2) (F1 b2)
          · have HN := Lib.hid (show Hid ((i, k) = inn (fun a b => distV (F1 a) (F1 b)) i (a, b) (k + 1 - (i + 1))) by have h := inn_yes (i := i) (j := j) HIN2.out (by show distV (F1 i) (F1 (i + 1 + j)) < _; rw [HK.out]; exact hc); rw [HK.out] at h; rw [show k + 1 - (i + 1) = j + 1 by have := HK.out; omega]; exact h)
            go_wp2
            go_big_quiet ((go_at_call 65; exact still_quiet (l08Abs_any _ _ _ (by assumption) (by assumption) (by assumption) (by assumption))))
            go_wp2
            go_roundw
            case rel => first | exact ⟨k + 1, i, k, by omega, by omega, by omega, by omega, by go_num, rfl, rfl, HN.out, below_drewN hin _⟩ | ((repeat apply Exists.intro); exact ⟨⟨k + 1, i, k, by omega, by omega, by omega, by omega, by go_num, rfl, rfl, HN.out, below_drewN hin _⟩, rfl⟩)
            case measure => simp [intOf]; omega
          · have HN := Lib.hid (show Hid ((a2, b2) = inn (fun a b => distV (F1 a) (F1 b)) i (a, b) (k + 1 - (i + 1))) by have h := inn_no (i := i) (j := j) HIN2.out (by show ¬ distV (F1 i) (F1 (i + 1 + j)) < _; rw [HK.out]; exact hc); rw [show k + 1 - (i + 1) = j + 1 by have := HK.out; omega]; exact h)
            have hcd : decide (distV (F1 i) (F1 k) < distV (F1 a2) (F1 b2)) = false := by simpa using hc
            go_wp2
            go_big_quiet ((go_at_call 65; exact still_quiet (l08Abs_any _ _ _ (by assumption) (by assumption) (by assumption) (by assumption))))
            go_wp2
            go_roundw
            case rel => first | exact ⟨k + 1, a2, b2, by omega, by omega, by omega, by omega, by go_num, rfl, rfl, HN.out, below_drewN hin _⟩ | ((repeat apply Exists.intro); exact ⟨⟨k + 1, a2, b2, by omega, by omega, by omega, by omega, by go_num, rfl, rfl, HN.out, below_drewN hin _⟩, rfl⟩)
            case measure => simp [intOf]; omega
        · obtain rfl : k = n := by omega
          have HN := Lib.hid (show Hid ((a2, b2) = outr (fun a b => distV (F1 a) (F1 b)) k (i + 1)) by show _ = inn _ _ _ _; rw [← HST.out.out]; exact HIN.out.out)
          go_wp2
          go_roundw
          case rel => first | exact ⟨i + 1, a2, b2, by omega, by omega, by omega, by go_num, rfl, rfl, HN.out, hW0.trans (hin.mono hW0.size)⟩ | ((repeat apply Exists.intro); exact ⟨⟨i + 1, a2, b2, by omega, by omega, by omega, by go_num, rfl, rfl, HN.out, hW0.trans (hin.mono hW0.size)⟩, rfl⟩)
          case measure => simp [intOf]; omega
    · obtain rfl : i = n := by omega
      have hv := HV.out
      rw [← HST.out.out] at hv
      simp only [Prod.mk.injEq] at hv
      have HVV := Lib.hid hv
      clear hv
      go_wp2
      go_ret3
      exact ⟨by rw [← HVV.out.1, ← HVV.out.2.1, ← HVV.out.2.2]; rfl, hbel⟩

set_option maxHeartbeats 2000000 in
theorem implClosestModes_any (g n : Nat) (F0 : Nat → ByteArray) (F1 : Nat → Int) (F2 : Nat → Int)  (v1 : Int) (v2 : Int) (v3 : Int) (w : World) (t1 : TypeId) (hn : n ≤ 1048576) (h1 : w.rowIs g t1 (n * 3) (flat 3 (rowMode F0 F1 F2))) (hS0 : ∀ i, i < n → (F0 i).size ≤ maxLen)  (hv : clRes n F0 F1 F2  = (v1, v2, v3)) :
    Calls Try.prog 18 #[.slice (some ⟨g, 0, none⟩) n n] w fun e w' => e = .returned (.tuple #[.int .i64 v1, .int .i64 v2, .int .i64 v3]) ∧ Below w.heap.size w w' := by
  have hl1 := h1.lt
  have HR1 := Lib.hid (RdMode.of_row h1)
  have H1 := Lib.hid h1
  have HS0 := Lib.hid hS0
  clear h1 hS0
  by_cases e0 : listMode n F0 F1 F2 = true
  case neg =>
    obtain ⟨rfl, rfl, rfl⟩ : v1 = 0 ∧ v2 = 0 ∧ v3 = 1 := by unfold clRes at hv; rw [if_neg e0] at hv; simpa [eq_comm] using hv
    have e0n : (listMode n F0 F1 F2) = false := by simpa using e0
    clear hv e0
    go_enter Try.func18, Try.ntmps18
    go_wp2_with fail
    refine (ValidMode_any _ _ F0 F1 F2 _ _ hn H1.out HS0.out).mono ?_
    rintro e w1 ⟨rfl, hb1⟩
    go_wp2_with (first | (go_at_call 120; refine (within_any _ _ _ _).mono ?_; rintro e w' ⟨rfl, rfl⟩) | go_in)
    go_ret3
    exact ⟨rfl, hb1⟩
  by_cases e1 : (!decide (n < 2)) = true
  case neg =>
    obtain ⟨rfl, rfl, rfl⟩ : v1 = 0 ∧ v2 = 0 ∧ v3 = 3 := by unfold clRes at hv; rw [if_pos e0, if_neg e1] at hv; simpa [eq_comm] using hv
    have e1n : ((!decide (n < 2))) = false := by simpa using e1
    have q1 : n < 2 := by simpa using e1n
    have q2 : (n : Int) < 2 := by omega
    clear e1n
    clear hv e1
    go_enter Try.func18, Try.ntmps18
    go_wp2_with fail
    refine (ValidMode_any _ _ F0 F1 F2 _ _ hn H1.out HS0.out).mono ?_
    rintro e w1 ⟨rfl, hb1⟩
    go_wp2_with (first | (go_at_call 120; refine (within_any _ _ _ _).mono ?_; rintro e w' ⟨rfl, rfl⟩) | go_in)
    go_ret3
    exact ⟨rfl, hb1⟩
  replace hv : ((((outr (fun a b => distV (F1 a) (F1 b)) n n).1 : Nat) : Int), (((outr (fun a b => distV (F1 a) (F1 b)) n n).2 : Nat) : Int), 0) = (v1, v2, v3) := by unfold clRes at hv; rw [if_pos e0, if_pos e1] at hv; exact hv
  have q1 : ¬ n < 2 := by simpa using e1
  have q2 : decide ((n : Int) < 2) = false := by simp; omega
  have q3 : 2 ≤ n := by omega
  clear e1 q1
  have HV := Lib.hid hv
  clear hv
  go_enter Try.func18, Try.ntmps18
  go_wp2_with fail
  refine (ValidMode_any _ _ F0 F1 F2 _ _ hn H1.out HS0.out).mono ?_
  rintro e w1 ⟨rfl, hb1⟩
  have H2 := Lib.hid (row_below H1.out hb1 H1.out.lt)
  have TB := Lib.hid (fun k hk => tone_bd e0 k hk)
  go_wp2
  go_loopw [5, 6, 18] (fun va vb j wr => ∃ (i a b : Nat), i ≤ n ∧ a < n ∧ b < n ∧ j = .int .i64 i ∧ va = .int .i64 a ∧ vb = .int .i64 b ∧ Hid ((a, b) = outr (fun a b => distV (F1 a) (F1 b)) n i) ∧ Below w.heap.size w wr) (fun _ _ j _ => n - (intOf j).toNat)
  case atStart => exact ⟨0, 0, 1, by omega, by omega, by omega, rfl, rfl, rfl, rfl, hb1⟩
  case round =>
    obtain ⟨i, a, b, hi, han, hbn, rfl, rfl, rfl, hst, hbel⟩ := hrel
    obtain ⟨wo, rfl⟩ : ∃ wo : World, wo = wr := ⟨_, rfl⟩
    have HST := Lib.hid hst
    clear hst
    by_cases hlt : i < n
    · have hlti : (i : Int) < (n : Int) := by omega
      have hii : (0 : Int) ≤ (i : Int) := by omega
      have hgo : g < wo.heap.size := Nat.lt_of_lt_of_le hl1 hbel.size
      obtain ⟨a0, a1, a2⟩ := HR1.out i hlt
      rw [← bcell hbel _ _ hl1] at a0 a1 a2
      simp only [Nat.zero_add] at a0 a1 a2
      obtain ⟨t1, t2⟩ := TB.out i hlt
      go_wp2
      have hW0 : Below w.heap.size w (wo.alloc (.cells #[.string (F0 i), .int .i64 (F1 i), .int .i64 (F2 i)] 88)) := hbel.alloc hbel.size _
      have hgW : g < (wo.alloc (.cells #[.string (F0 i), .int .i64 (F1 i), .int .i64 (F2 i)] 88)).heap.size := by simp; omega
      have HB1 := Lib.hid (show (wo.alloc (.cells #[.string (F0 i), .int .i64 (F1 i), .int .i64 (F2 i)] 88)).cell? ⟨wo.heap.size, 1, none⟩ = some (.int .i64 (F1 i)) by simp)
      have HA1 := Lib.hid a1
      clear a0 a1 a2
      go_loopw [5, 6, 9] (fun va vb q wi => ∃ (k a2 b2 : Nat), i + 1 ≤ k ∧ k ≤ n ∧ a2 < n ∧ b2 < n ∧ q = .int .i64 k ∧ va = .int .i64 a2 ∧ vb = .int .i64 b2 ∧ Hid ((a2, b2) = inn (fun a b => distV (F1 a) (F1 b)) i (a, b) (k - (i + 1))) ∧ Below (wo.alloc (.cells #[.string (F0 i), .int .i64 (F1 i), .int .i64 (F2 i)] 88)).heap.size (wo.alloc (.cells #[.string (F0 i), .int .i64 (F1 i), .int .i64 (F2 i)] 88)) wi) (fun _ _ q _ => n - (intOf q).toNat)
      case atStart => exact ⟨i + 1, a, b, by omega, by omega, han, hbn, by go_num, rfl, rfl, by rw [Nat.sub_self]; rfl, Below.refl _ _⟩
      case round =>
        obtain ⟨k, a2, b2, hik, hk, ha2, hb2, rfl, rfl, rfl, hinn, hin⟩ := hrel
        have HIN := Lib.hid hinn
        clear hinn
        by_cases hkn : k < n
        · obtain ⟨j, rfl⟩ : ∃ j, k = i + 1 + j := ⟨k - (i + 1), by omega⟩
          have HIN2 := Lib.hid (show (a2, b2) = inn (fun a b => distV (F1 a) (F1 b)) i (a, b) j by have := HIN.out.out; rwa [show i + 1 + j - (i + 1) = j by omega] at this)
          clear HIN
          generalize hkk : i + 1 + j = k at *
          have HK := Lib.hid hkk
          clear hkk
          have hkni : (k : Int) < (n : Int) := by omega
          have hki : (0 : Int) ≤ (k : Int) := by omega
          have ha2i : (a2 : Int) < (n : Int) := by omega
          have hb2i : (b2 : Int) < (n : Int) := by omega
          have ha20 : (0 : Int) ≤ (a2 : Int) := by omega
          have hb20 : (0 : Int) ≤ (b2 : Int) := by omega
          have hbi := hW0.trans (hin.mono hW0.size)
          obtain ⟨_, c1, _⟩ := HR1.out k hkn
          rw [← bcell hbi _ _ hl1] at c1
          simp only [Nat.zero_add] at c1
          obtain ⟨ct1, ct2⟩ := TB.out k hkn
          obtain ⟨_, d1, _⟩ := HR1.out a2 ha2
          rw [← bcell hbi _ _ hl1] at d1
          simp only [Nat.zero_add] at d1
          obtain ⟨dt1, dt2⟩ := TB.out a2 ha2
          obtain ⟨_, e1, _⟩ := HR1.out b2 hb2
          rw [← bcell hbi _ _ hl1] at e1
          simp only [Nat.zero_add] at e1
          obtain ⟨et1, et2⟩ := TB.out b2 hb2
          have x1 := (bcell hin _ _ (by simp)).trans HB1.out
          by_cases hc : distV (F1 i) (F1 k) < distV (F1 a2) (F1 b2)
          · have HN := Lib.hid (show Hid ((i, k) = inn (fun a b => distV (F1 a) (F1 b)) i (a, b) (k + 1 - (i + 1))) by have h := inn_yes (i := i) (j := j) HIN2.out (by show distV (F1 i) (F1 (i + 1 + j)) < _; rw [HK.out]; exact hc); rw [HK.out] at h; rw [show k + 1 - (i + 1) = j + 1 by have := HK.out; omega]; exact h)
            go_wp2
            go_big_quiet ((go_at_call 68; exact still_quiet (distance_any _ _ _ (by assumption) (by assumption) (by assumption) (by assumption))))
            go_wp2
            go_roundw
            case rel => first | exact ⟨k + 1, i, k, by omega, by omega, by omega, by omega, by go_num, rfl, rfl, HN.out, below_drewN hin _⟩ | ((repeat apply Exists.intro); exact ⟨⟨k + 1, i, k, by omega, by omega, by omega, by omega, by go_num, rfl, rfl, HN.out, below_drewN hin _⟩, rfl⟩)
            case measure => simp [intOf]; omega
          · have HN := Lib.hid (show Hid ((a2, b2) = inn (fun a b => distV (F1 a) (F1 b)) i (a, b) (k + 1 - (i + 1))) by have h := inn_no (i := i) (j := j) HIN2.out (by show ¬ distV (F1 i) (F1 (i + 1 + j)) < _; rw [HK.out]; exact hc); rw [show k + 1 - (i + 1) = j + 1 by have := HK.out; omega]; exact h)
            have hcd : decide (distV (F1 i) (F1 k) < distV (F1 a2) (F1 b2)) = false := by simpa using hc
            go_wp2
            go_big_quiet ((go_at_call 68; exact still_quiet (distance_any _ _ _ (by assumption) (by assumption) (by assumption) (by assumption))))
            go_wp2
            go_roundw
            case rel => first | exact ⟨k + 1, a2, b2, by omega, by omega, by omega, by omega, by go_num, rfl, rfl, HN.out, below_drewN hin _⟩ | ((repeat apply Exists.intro); exact ⟨⟨k + 1, a2, b2, by omega, by omega, by omega, by omega, by go_num, rfl, rfl, HN.out, below_drewN hin _⟩, rfl⟩)
            case measure => simp [intOf]; omega
        · obtain rfl : k = n := by omega
          have HN := Lib.hid (show Hid ((a2, b2) = outr (fun a b => distV (F1 a) (F1 b)) k (i + 1)) by show _ = inn _ _ _ _; rw [← HST.out.out]; exact HIN.out.out)
          go_wp2
          go_roundw
          case rel => first | exact ⟨i + 1, a2, b2, by omega, by omega, by omega, by go_num, rfl, rfl, HN.out, hW0.trans (hin.mono hW0.size)⟩ | ((repeat apply Exists.intro); exact ⟨⟨i + 1, a2, b2, by omega, by omega, by omega, by go_num, rfl, rfl, HN.out, hW0.trans (hin.mono hW0.size)⟩, rfl⟩)
          case measure => simp [intOf]; omega
    · obtain rfl : i = n := by omega
      have hv := HV.out
      rw [← HST.out.out] at hv
      simp only [Prod.mk.injEq] at hv
      have HVV := Lib.hid hv
      clear hv
      go_wp2
      go_ret3
      exact ⟨by rw [← HVV.out.1, ← HVV.out.2.1, ← HVV.out.2.2]; rfl, hbel⟩
end Go.Proofs.Ytlpjjhjbejjddaa
