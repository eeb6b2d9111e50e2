/- The contracts of IsChain. -/
import Derived.Test.YtlpjjhjbejjddaaDeedV
import Derived.Test.YtlpjjhjbejjddaaInts
import Derived.Test.YtlpjjhjbejjddaaMore
namespace Go.Proofs.Ytlpjjhjbejjddaa
open Go.RowKit
attribute [local go_sem ↓] Go.wp_at_zero Go.wp_at_succ
set_option linter.unusedVariables false

theorem allB_and (n : Nat) (p q : Nat → Bool) : allB n (fun i => p i && q i) = (allB n p && allB n q) := by
  induction n with
  | zero => rfl
  | succ n ih => rw [allB_succ, allB_succ, allB_succ, ih]; cases allB n p <;> cases allB n q <;> cases p n <;> cases q n <;> rfl

/-- The numbers rise, within bounds. -/
def riseAt (z : Nat → Int) (lo hi : Int) (i : Nat) : Bool := inB (z i) lo hi && (decide (i = 0) || decide (z (i - 1) < z i))

set_option maxHeartbeats 2000000 in
theorem l00Rises_any (g n : Nat) (z : Nat → Int) (lo hi : Int) (w : World) (t1 : TypeId) (hn : n ≤ 1048576) (h1 : w.rowIs g t1 n (rowInts z)) :
    Calls Try.prog 132 #[.slice (some ⟨g, 0, none⟩) n n, .int .i64 lo, .int .i64 hi] w fun e w' => e = .returned (.bool (allB n (riseAt z lo hi))) ∧ Below w.heap.size w w' := by
  have hl1 := h1.lt
  have HR1 := Lib.hid (RdInts.of_row h1)
  clear h1
  go_enter Try.func132, Try.ntmps132
  go_wp2
  go_loopw [7] (fun i wr => ∃ (k : Nat), k ≤ n ∧ i = .int .i64 k ∧ Below w.heap.size w wr ∧ allB k (riseAt z lo hi) = true) (fun i _ => n - (intOf i).toNat)
  case atStart => exact ⟨0, Nat.zero_le _, rfl, Below.refl _ _, rfl⟩
  case round =>
    obtain ⟨k, hk, rfl, hbel, ha⟩ := hrel
    have HA := Lib.hid ha
    clear ha
    by_cases hlt : k < n
    · have hlti : (k : Int) < (n : Int) := by omega
      have hki : (0 : Int) ≤ (k : Int) := by omega
      have c0 := HR1.out k hlt
      rw [← bcell hbel _ _ hl1] at c0
      simp only [Nat.zero_add] at c0
      by_cases hv : inB (z k) lo hi = true
      · by_cases hk0 : k = 0
        · have HK := Lib.hid (show riseAt z lo hi k = true by unfold riseAt; rw [hv, hk0]; rfl)
          have hkd : decide (0 < k) = false := by simp; omega
          clear hk0
          go_wp2
          go_big_quiet ((go_at_call 124; exact still_quiet (l00In_any _ _ _ _)))
          go_wp2
          go_roundw
          case rel => exact ⟨k + 1, by omega, by go_num, below_drewN hbel _, by rw [allB_succ, HA.out, HK.out]; rfl⟩
          case measure => simp [intOf]; omega
        · obtain ⟨j, rfl⟩ : ∃ j, k = j + 1 := ⟨k - 1, by omega⟩
          clear hk0
          have d0 := HR1.out j (by omega)
          rw [← bcell hbel _ _ hl1] at d0
          simp only [Nat.zero_add] at d0
          by_cases hb : z j < z (j + 1)
          · have HK := Lib.hid (show riseAt z lo hi (j + 1) = true by unfold riseAt; rw [hv]; simpa using hb)
            have hbd : decide (z (j + 1) ≤ z j) = false := by simp; omega
            go_wp2
            go_big_quiet ((go_at_call 124; exact still_quiet (l00In_any _ _ _ _)))
            go_wp2
            go_roundw
            case rel => exact ⟨j + 1 + 1, by omega, by go_num, below_drewN hbel _, by rw [allB_succ, HA.out, HK.out]; rfl⟩
            case measure => simp [intOf]; omega
          · have HF := Lib.hid (allB_false (n := n) (p := riseAt z lo hi) (j + 1) hlt (by unfold riseAt; rw [hv]; simpa using hb))
            have hbd : z (j + 1) ≤ z j := by omega
            go_wp2
            go_big_quiet ((go_at_call 124; exact still_quiet (l00In_any _ _ _ _)))
            go_wp2
            go_ret
            exact ⟨by rw [HF.out]; rfl, below_drewN hbel _⟩
      · have hvn : inB (z k) lo hi = false := by simpa using hv
        clear hv
        have HF := Lib.hid (allB_false (n := n) (p := riseAt z lo hi) k hlt (by unfold riseAt; rw [hvn]; rfl))
        go_wp2
        go_big_quiet ((go_at_call 124; exact still_quiet (l00In_any _ _ _ _)))
        go_wp2
        go_ret
        exact ⟨by rw [HF.out]; rfl, below_drewN hbel _⟩
    · obtain rfl : k = n := by omega
      go_wp2
      go_ret
      exact ⟨by rw [HA.out]; rfl, hbel⟩

/-- The link of the places i - 1 and i. -/
def linkAt (z : Nat → Int) (F0 F1 : Nat → ByteArray) (i : Nat) : Bool := decide (i = 0) || ((F1 (z (i - 1)).toNat).toList == (F0 (z i).toNat).toList)

/-- A chain of deeds. -/
def chainB (n m : Nat) (z : Nat → Int) (F0 F1 : Nat → ByteArray) : Bool := decide (0 < m) && (allB m (riseAt z 0 ((n : Int) - 1)) && allB m (linkAt z F0 F1))

set_option maxHeartbeats 4000000 in
theorem l19Chain_any (g n : Nat) (F0 : Nat → ByteArray) (F1 : Nat → ByteArray) (F2 : Nat → Int) (F3 : Nat → Int) (g2 m : Nat) (z : Nat → Int) (t2 : TypeId) (w : World) (t1 : TypeId) (hn : n ≤ 1048576) (h1 : w.rowIs g t1 (n * 4) (flat 4 (rowDeed F0 F1 F2 F3)))  (hm : m ≤ 1048576) (h2 : w.rowIs g2 t2 m (rowInts z)) :
    Calls Try.prog 92 #[.slice (some ⟨g, 0, none⟩) n n, .slice (some ⟨g2, 0, none⟩) m m] w fun e w' => e = .returned (.bool (chainB n m z F0 F1)) ∧ Below w.heap.size w w' := by
  have hl1 := h1.lt
  have hl2 := h2.lt
  have HR1 := Lib.hid (RdDeed.of_row h1)
  have HR2 := Lib.hid (RdInts.of_row h2)
  have H2 := Lib.hid h2
  clear h1 h2
  by_cases hm0 : m = 0
  · have HF := Lib.hid (show chainB n m z F0 F1 = false by unfold chainB; rw [hm0]; rfl)
    have hmb : ((m : Int) == 0) = true := by simp; omega
    clear hm0
    go_enter Try.func92, Try.ntmps92
    go_wp2
    go_ret
    exact ⟨by rw [HF.out]; rfl, Below.refl _ _⟩
  have hmb : ((m : Int) == 0) = false := by simp; omega
  have hmp : 0 < m := by omega
  by_cases hri : allB m (riseAt z 0 ((n : Int) - 1)) = true
  case neg =>
    have hrin : allB m (riseAt z 0 ((n : Int) - 1)) = false := by simpa using hri
    clear hri
    have HF := Lib.hid (show chainB n m z F0 F1 = false by unfold chainB; rw [hrin]; simp)
    go_enter Try.func92, Try.ntmps92
    go_wp2_with fail
    refine (l00Rises_any _ _ z _ _ _ _ hm H2.out).mono ?_
    rintro e w1 ⟨rfl, hb1⟩
    go_wp2
    go_ret
    exact ⟨by rw [HF.out]; rfl, hb1⟩
  have HCE := Lib.hid (show chainB n m z F0 F1 = allB m (linkAt z F0 F1) by unfold chainB; rw [hri, decide_eq_true hmp]; rfl)
  have HRI := Lib.hid (allB_at hri)
  go_enter Try.func92, Try.ntmps92
  go_wp2_with fail
  refine (l00Rises_any _ _ z _ _ _ _ hm H2.out).mono ?_
  rintro e w1 ⟨rfl, hb1⟩
  go_wp2
  go_loopw [5] (fun i wr => ∃ (k : Nat), 1 ≤ k ∧ k ≤ m ∧ i = .int .i64 k ∧ Below w.heap.size w wr ∧ allB k (linkAt z F0 F1) = true) (fun i _ => m - (intOf i).toNat)
  case atStart => exact ⟨1, by omega, by omega, rfl, hb1, rfl⟩
  case round =>
    obtain ⟨k, hk1, hk, rfl, hbel, ha⟩ := hrel
    have HA := Lib.hid ha
    clear ha hri
    by_cases hlt : k < m
    · obtain ⟨j, rfl⟩ : ∃ j, k = j + 1 := ⟨k - 1, by omega⟩
      have hlti : ((j + 1 : Nat) : Int) < (m : Int) := by omega
      have r1 := HRI.out j (by omega)
      have r2 := HRI.out (j + 1) (by omega)
      unfold riseAt at r1 r2
      rw [Bool.and_eq_true] at r1 r2
      obtain ⟨u1, u2⟩ := inB_true r1.1
      obtain ⟨u3, u4⟩ := inB_true r2.1
      clear r1 r2
      have p1 : z j < (n : Int) := by omega
      have p2 : z (j + 1) < (n : Int) := by omega
      obtain ⟨_, s1, _, _⟩ := HR1.out (z j).toNat (by omega)
      obtain ⟨s0, _, _, _⟩ := HR1.out (z (j + 1)).toNat (by omega)
      rw [← bcell hbel _ _ hl1] at s1 s0
      simp only [Nat.zero_add] at s1 s0
      have d0 := HR2.out j (by omega)
      have c0 := HR2.out (j + 1) hlt
      rw [← bcell hbel _ _ hl2] at c0 d0
      simp only [Nat.zero_add] at c0 d0
      by_cases he : ((F1 (z j).toNat).toList == (F0 (z (j + 1)).toNat).toList) = true
      · have HK := Lib.hid (show linkAt z F0 F1 (j + 1) = true by unfold linkAt; simpa using he)
        go_wp2
        go_big_quiet (fail)
        go_wp2
        go_roundw
        case rel => exact ⟨j + 1 + 1, by omega, by omega, by go_num, below_drewN hbel _, by rw [allB_succ, HA.out, HK.out]; rfl⟩
        case measure => simp [intOf]; omega
      · have hen : ((F1 (z j).toNat).toList == (F0 (z (j + 1)).toNat).toList) = false := by simpa using he
        clear he
        have HF := Lib.hid (allB_false (n := m) (p := linkAt z F0 F1) (j + 1) hlt (by unfold linkAt; simpa using hen))
        go_wp2
        go_big_quiet (fail)
        go_wp2
        go_ret
        exact ⟨by rw [HCE.out, HF.out]; rfl, below_drewN hbel _⟩
    · obtain rfl : k = m := by omega
      go_wp2
      go_ret
      exact ⟨by rw [HCE.out, HA.out]; rfl, hbel⟩

set_option maxHeartbeats 400000 in
theorem at_any (k : Int) (n : Nat) (w : World) (hn : n ≤ 1048576) :
    Calls Try.prog 134 #[.int .i64 k, .int .i64 (n : Int)] w fun e w' => e = .returned (.bool (inB k 0 ((n : Int) - 1))) ∧ w = w' := by
  by_cases a1 : 0 ≤ k
  · by_cases a2 : k < (n : Int)
    · have HF := Lib.hid (show inB k 0 ((n : Int) - 1) = true from inB_mk a1 (by omega))
      go_enter Try.func134, Try.ntmps134
      go_wp2
      go_ret
      exact ⟨by rw [HF.out]; rfl, rfl⟩
    · have HF := Lib.hid (show inB k 0 ((n : Int) - 1) = false by unfold inB; rw [decide_eq_false (show ¬ k ≤ (n : Int) - 1 by omega)]; simp)
      have a2n : decide (k < (n : Int)) = false := by simpa using a2
      go_enter Try.func134, Try.ntmps134
      go_wp2
      go_ret
      exact ⟨by rw [HF.out]; rfl, rfl⟩
  · have HF := Lib.hid (show inB k 0 ((n : Int) - 1) = false by unfold inB; rw [decide_eq_false a1]; rfl)
    have a1n : decide (0 ≤ k) = false := by simpa using a1
    go_enter Try.func134, Try.ntmps134
    go_wp2
    go_ret
    exact ⟨by rw [HF.out]; rfl, rfl⟩

/-- The program looks at both at once. -/
def bothAt (n : Nat) (z : Nat → Int) (F0 F1 : Nat → ByteArray) (i : Nat) : Bool := riseAt z 0 ((n : Int) - 1) i && linkAt z F0 F1 i

theorem both_eq (n m : Nat) (z : Nat → Int) (F0 F1 : Nat → ByteArray) : chainB n m z F0 F1 = (decide (0 < m) && allB m (bothAt n z F0 F1)) := by
  unfold chainB
  rw [← allB_and]
  rfl

set_option maxHeartbeats 4000000 in
theorem isChain_any (g n : Nat) (F0 : Nat → ByteArray) (F1 : Nat → ByteArray) (F2 : Nat → Int) (F3 : Nat → Int) (g2 m : Nat) (z : Nat → Int) (t2 : TypeId) (w : World) (t1 : TypeId) (hn : n ≤ 1048576) (h1 : w.rowIs g t1 (n * 4) (flat 4 (rowDeed F0 F1 F2 F3)))  (hm : m ≤ 1048576) (h2 : w.rowIs g2 t2 m (rowInts z)) :
    Calls Try.prog 95 #[.slice (some ⟨g, 0, none⟩) n n, .slice (some ⟨g2, 0, none⟩) m m] w fun e w' => e = .returned (.bool (chainB n m z F0 F1)) ∧ Below w.heap.size w w' := by
  have hl1 := h1.lt
  have hl2 := h2.lt
  have HR1 := Lib.hid (RdDeed.of_row h1)
  have HR2 := Lib.hid (RdInts.of_row h2)
  have HCE := Lib.hid (both_eq n m z F0 F1)
  clear h1 h2
  go_enter Try.func95, Try.ntmps95
  go_wp2
  go_loopw [9] (fun i wr => ∃ (k : Nat), k ≤ m ∧ i = .int .i64 k ∧ Below w.heap.size w wr ∧ allB k (bothAt n z F0 F1) = true) (fun i _ => m - (intOf i).toNat)
  case atStart => exact ⟨0, by omega, rfl, Below.refl _ _, rfl⟩
  case round =>
    obtain ⟨k, hk, rfl, hbel, ha⟩ := hrel
    have HA := Lib.hid ha
    clear ha
    by_cases hlt : k < m
    · have hlti : (k : Int) < (m : Int) := by omega
      have hki : (0 : Int) ≤ (k : Int) := by omega
      have c0 := HR2.out k hlt
      rw [← bcell hbel _ _ hl2] at c0
      simp only [Nat.zero_add] at c0
      by_cases hv : inB (z k) 0 ((n : Int) - 1) = true
      · by_cases hk0 : k = 0
        · have HK := Lib.hid (show bothAt n z F0 F1 k = true by unfold bothAt riseAt linkAt; rw [hv, hk0]; rfl)
          have hkd : decide (0 < k) = false := by simp; omega
          clear hk0
          go_wp2
          go_big_quiet ((go_at_call 134; exact still_quiet (at_any _ _ _ hn)))
          go_wp2
          go_roundw
          case rel => exact ⟨k + 1, by omega, by go_num, below_drewN hbel _, by rw [allB_succ, HA.out, HK.out]; rfl⟩
          case measure => simp [intOf]; omega
        · obtain ⟨j, rfl⟩ : ∃ j, k = j + 1 := ⟨k - 1, by omega⟩
          clear hk0
          have d0 := HR2.out j (by omega)
          rw [← bcell hbel _ _ hl2] at d0
          simp only [Nat.zero_add] at d0
          by_cases hb : z j < z (j + 1)
          · have hbd : decide (z (j + 1) ≤ z j) = false := by simp; omega
            have r1 := allB_at HA.out j (by omega)
            unfold bothAt riseAt at r1
            rw [Bool.and_eq_true, Bool.and_eq_true] at r1
            obtain ⟨u1, u2⟩ := inB_true r1.1.1
            obtain ⟨u3, u4⟩ := inB_true hv
            clear r1
            have p1 : z j < (n : Int) := by omega
            have p2 : z (j + 1) < (n : Int) := by omega
            obtain ⟨_, s1, _, _⟩ := HR1.out (z j).toNat (by omega)
            obtain ⟨s0, _, _, _⟩ := HR1.out (z (j + 1)).toNat (by omega)
            rw [← bcell hbel _ _ hl1] at s1 s0
            simp only [Nat.zero_add] at s1 s0
            by_cases he : ((F1 (z j).toNat).toList == (F0 (z (j + 1)).toNat).toList) = true
            · have HK := Lib.hid (show bothAt n z F0 F1 (j + 1) = true by unfold bothAt riseAt linkAt; rw [hv]; simpa using ⟨hb, by simpa using he⟩)
              go_wp2
              go_big_quiet ((go_at_call 134; exact still_quiet (at_any _ _ _ hn)))
              go_wp2
              go_roundw
              case rel => exact ⟨j + 1 + 1, by omega, by go_num, below_drewN hbel _, by rw [allB_succ, HA.out, HK.out]; rfl⟩
              case measure => simp [intOf]; omega
            · have hen : ((F1 (z j).toNat).toList == (F0 (z (j + 1)).toNat).toList) = false := by simpa using he
              clear he
              have HF := Lib.hid (allB_false (n := m) (p := bothAt n z F0 F1) (j + 1) hlt (by unfold bothAt; rw [show linkAt z F0 F1 (j + 1) = false by unfold linkAt; simpa using hen]; simp))
              go_wp2
              go_big_quiet ((go_at_call 134; exact still_quiet (at_any _ _ _ hn)))
              go_wp2
              go_ret
              exact ⟨by rw [HCE.out, HF.out]; simp, below_drewN hbel _⟩
          · have HF := Lib.hid (allB_false (n := m) (p := bothAt n z F0 F1) (j + 1) hlt (by unfold bothAt; rw [show riseAt z 0 ((n : Int) - 1) (j + 1) = false by unfold riseAt; rw [hv]; simpa using hb]; rfl))
            have hbd : z (j + 1) ≤ z j := by omega
            go_wp2
            go_big_quiet ((go_at_call 134; exact still_quiet (at_any _ _ _ hn)))
            go_wp2
            go_ret
            exact ⟨by rw [HCE.out, HF.out]; simp, below_drewN hbel _⟩
      · have hvn : inB (z k) 0 ((n : Int) - 1) = false := by simpa using hv
        clear hv
        have HF := Lib.hid (allB_false (n := m) (p := bothAt n z F0 F1) k hlt (by unfold bothAt riseAt; rw [hvn]; rfl))
        go_wp2
        go_big_quiet ((go_at_call 134; exact still_quiet (at_any _ _ _ hn)))
        go_wp2
        go_ret
        exact ⟨by rw [HCE.out, HF.out]; simp, below_drewN hbel _⟩
    · obtain rfl : k = m := by omega
      go_wp2
      go_ret
      exact ⟨by rw [HCE.out, HA.out]; simp, hbel⟩

set_option maxHeartbeats 4000000 in
theorem specIsChain_any (g n : Nat) (F0 : Nat → ByteArray) (F1 : Nat → ByteArray) (F2 : Nat → Int) (F3 : Nat → Int) (g2 m : Nat) (z : Nat → Int) (t2 : TypeId) (w : World) (t1 : TypeId) (hn : n ≤ 1048576) (h1 : w.rowIs g t1 (n * 4) (flat 4 (rowDeed F0 F1 F2 F3))) (hS0 : ∀ i, i < n → (F0 i).size ≤ maxLen) (hS1 : ∀ i, i < n → (F1 i).size ≤ maxLen) (hm : m ≤ 1048576) (h2 : w.rowIs g2 t2 m (rowInts z)) :
    Calls Try.prog 38 #[.slice (some ⟨g, 0, none⟩) n n, .slice (some ⟨g2, 0, none⟩) m m] w fun e w' => e = .returned (.bool (listDeed n F0 F1 F2 F3 && chainB n m z F0 F1)) ∧ Below w.heap.size w w' := by
  have H1 := Lib.hid h1
  have H2 := Lib.hid h2
  have HS0 := Lib.hid hS0
  have HS1 := Lib.hid hS1
  clear h1 h2 hS0 hS1
  by_cases e0 : listDeed n F0 F1 F2 F3 = true
  · have HF := Lib.hid (show (listDeed n F0 F1 F2 F3 && chainB n m z F0 F1) = chainB n m z F0 F1 by rw [e0]; rfl)
    go_enter Try.func38, Try.ntmps38
    go_wp2_with fail
    refine (OkDeed_any _ _ F0 F1 F2 F3 _ _ hn H1.out HS0.out HS1.out).mono ?_
    rintro e w1 ⟨rfl, hb1⟩
    have H3 := Lib.hid (row_below H1.out hb1 H1.out.lt)
    have H4 := Lib.hid (row_below H2.out hb1 H2.out.lt)
    go_wp2_with fail
    refine (l19Chain_any _ _ F0 F1 F2 F3 _ _ _ _ _ _ hn H3.out hm H4.out).mono ?_
    rintro e w2 ⟨rfl, hb2⟩
    go_wp2
    go_ret
    exact ⟨by rw [HF.out]; rfl, hb1.trans (hb2.mono hb1.size)⟩
  · have e0n : listDeed n F0 F1 F2 F3 = false := by simpa using e0
    clear e0
    have HF := Lib.hid (show (listDeed n F0 F1 F2 F3 && chainB n m z F0 F1) = false by rw [e0n]; rfl)
    go_enter Try.func38, Try.ntmps38
    go_wp2_with fail
    refine (OkDeed_any _ _ F0 F1 F2 F3 _ _ hn H1.out HS0.out HS1.out).mono ?_
    rintro e w1 ⟨rfl, hb1⟩
    go_wp2
    go_ret
    exact ⟨by rw [HF.out]; rfl, hb1⟩

set_option maxHeartbeats 4000000 in
theorem implIsChain_any (g n : Nat) (F0 : Nat → ByteArray) (F1 : Nat → ByteArray) (F2 : Nat → Int) (F3 : Nat → Int) (g2 m : Nat) (z : Nat → Int) (t2 : TypeId) (w : World) (t1 : TypeId) (hn : n ≤ 1048576) (h1 : w.rowIs g t1 (n * 4) (flat 4 (rowDeed F0 F1 F2 F3))) (hS0 : ∀ i, i < n → (F0 i).size ≤ maxLen) (hS1 : ∀ i, i < n → (F1 i).size ≤ maxLen) (hm : m ≤ 1048576) (h2 : w.rowIs g2 t2 m (rowInts z)) :
    Calls Try.prog 41 #[.slice (some ⟨g, 0, none⟩) n n, .slice (some ⟨g2, 0, none⟩) m m] w fun e w' => e = .returned (.bool (listDeed n F0 F1 F2 F3 && chainB n m z F0 F1)) ∧ Below w.heap.size w w' := by
  have H1 := Lib.hid h1
  have H2 := Lib.hid h2
  have HS0 := Lib.hid hS0
  have HS1 := Lib.hid hS1
  clear h1 h2 hS0 hS1
  by_cases e0 : listDeed n F0 F1 F2 F3 = true
  · have HF := Lib.hid (show (listDeed n F0 F1 F2 F3 && chainB n m z F0 F1) = chainB n m z F0 F1 by rw [e0]; rfl)
    go_enter Try.func41, Try.ntmps41
    go_wp2_with fail
    refine (ValidDeed_any _ _ F0 F1 F2 F3 _ _ hn H1.out HS0.out HS1.out).mono ?_
    rintro e w1 ⟨rfl, hb1⟩
    have H3 := Lib.hid (row_below H1.out hb1 H1.out.lt)
    have H4 := Lib.hid (row_below H2.out hb1 H2.out.lt)
    go_wp2_with fail
    refine (isChain_any _ _ F0 F1 F2 F3 _ _ _ _ _ _ hn H3.out hm H4.out).mono ?_
    rintro e w2 ⟨rfl, hb2⟩
    go_wp2
    go_ret
    exact ⟨by rw [HF.out]; rfl, hb1.trans (hb2.mono hb1.size)⟩
  · have e0n : listDeed n F0 F1 F2 F3 = false := by simpa using e0
    clear e0
    have HF := Lib.hid (show (listDeed n F0 F1 F2 F3 && chainB n m z F0 F1) = false by rw [e0n]; rfl)
    go_enter Try.func41, Try.ntmps41
    go_wp2_with fail
    refine (ValidDeed_any _ _ F0 F1 F2 F3 _ _ hn H1.out HS0.out HS1.out).mono ?_
    rintro e w1 ⟨rfl, hb1⟩
    go_wp2
    go_ret
    exact ⟨by rw [HF.out]; rfl, hb1⟩
end Go.Proofs.Ytlpjjhjbejjddaa
