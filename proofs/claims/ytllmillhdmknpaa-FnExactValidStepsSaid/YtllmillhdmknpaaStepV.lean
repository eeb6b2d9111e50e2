/- The contracts of the validity of the type Step and of its lists, in the program and in the reference: both are one and the same Bool. -/
import Derived.Test.YtllmillhdmknpaaStepI
namespace Go.Proofs.Ytllmillhdmknpaa
open Go.RowKit
attribute [local go_sem ↓] Go.wp_at_zero Go.wp_at_succ
/-- The number at place k is in a range and greater than the one before it. -/
def okR (z : Nat → Int) (lo hi : Int) (k : Nat) : Bool := inB (z k) lo hi && (decide (k = 0) || decide (z (k - 1) < z k))

/-- Numbers in a range that rise. -/
def riseB (n : Nat) (z : Nat → Int) (lo hi : Int) : Bool := allB n (okR z lo hi)

theorem rise_out {n : Nat} {z : Nat → Int} {lo hi : Int} (k : Nat) (hk : k < n) (h : okR z lo hi k = false) : riseB n z lo hi = false := allB_false k hk h

theorem rise_le {n : Nat} {z : Nat → Int} {lo hi : Int} (h : riseB n z lo hi = true) : ∀ d k, k + d < n → z k ≤ z (k + d)
  | 0, k, _ => Int.le_refl _
  | d + 1, k, hk => by
    have h1 := rise_le h d k (by omega)
    have h2 := allB_at h (k + d + 1) hk
    unfold okR at h2
    simp at h2
    have h3 := h2.2
    rw [show k + (d + 1) = k + d + 1 by omega]
    omega

theorem rise_low {n : Nat} {z : Nat → Int} {hi i : Int} (h : riseB n z 0 hi = true) : riseB n z 0 (i - 1) = (decide (n = 0) || decide (z (n - 1) < i)) := by
  by_cases h0 : n = 0
  · subst h0; rfl
  rw [decide_eq_false h0, Bool.false_or]
  by_cases hl : z (n - 1) < i
  · rw [decide_eq_true hl]
    unfold riseB at *
    have : allB n (okR z 0 (i - 1)) = allB n (fun _ => true) := allB_congr (fun k hk => by
      have h1 := allB_at h k hk
      have h2 := rise_le h (n - 1 - k) k (by omega)
      rw [show k + (n - 1 - k) = n - 1 by omega] at h2
      unfold okR inB at *
      simp only [Bool.and_eq_true, decide_eq_true_eq, Bool.or_eq_true] at *
      exact ⟨⟨h1.1.1, by omega⟩, h1.2⟩)
    rw [this]
    unfold allB
    simp
  · rw [decide_eq_false hl]
    refine rise_out (n - 1) (by omega) ?_
    unfold okR inB
    rw [decide_eq_false (show ¬ z (n - 1) ≤ i - 1 by omega)]
    simp

/-- A step that is valid for itself. -/
def vStep (x0 : ByteArray) (x1 x2 : Int) (nn : Nat) (z : Nat → Int) : Bool := riseB nn z 0 11 && (nameB x0 && (inB x1 1 200 && inB x2 0 20))

/-- The name s stands among the first k. -/
def seenB (F0 : Nat → ByteArray) : Nat → ByteArray → Bool
  | 0, _ => false
  | k + 1, s => (F0 k).toList == s.toList || seenB F0 k s

set_option maxHeartbeats 2000000 in
theorem l00Rises_any (g n : Nat) (z : Nat → Int) (lo hi : Int) (w : World) (t1 : TypeId) (hn : n ≤ 1048576) (h1 : w.rowIs g t1 n (rowInts z)) :
    Calls Try.prog 148 #[.slice (some ⟨g, 0, none⟩) n n, .int .i64 lo, .int .i64 hi] w fun e w' => e = .returned (.bool (riseB n z lo hi)) ∧ Below w.heap.size w w' := by
  have hl1 := h1.lt
  have HR := Lib.hid (RdInts.of_row h1)
  clear h1
  go_enter Try.func148, Try.ntmps148
  go_wp2
  go_loopw [7] (fun i wr => ∃ k : Nat, k ≤ n ∧ i = .int .i64 k ∧ allB k (okR z lo hi) = true ∧ Below w.heap.size w wr) (fun i _ => n - (intOf i).toNat)
  case atStart => exact ⟨0, Nat.zero_le _, rfl, rfl, Below.refl _ _⟩
  case round =>
    obtain ⟨k, hk, rfl, ha, hbel⟩ := hrel
    have HA := Lib.hid ha
    clear ha
    by_cases hlt : k < n
    case neg =>
      obtain rfl : k = n := by omega
      go_wp2
      go_ret
      exact ⟨by unfold riseB; rw [HA.out]; rfl, hbel⟩
    have hlti : (k : Int) < (n : Int) := by omega
    have hki : (0 : Int) ≤ (k : Int) := by omega
    have c0 := (bcell hbel _ _ hl1).trans (HR.out k hlt)
    simp only [Nat.zero_add] at c0
    by_cases e0 : inB (z k) lo hi = true
    case neg =>
      have e0n : inB (z k) lo hi = false := by simpa using e0
      clear e0
      have HF := Lib.hid (rise_out (n := n) k hlt (show okR z lo hi k = false by unfold okR; rw [e0n]; rfl))
      go_wp2
      go_big_quiet ((go_at_call 73; exact still_quiet (calls_is (l00In_any _ _ _ _) (by assumption))))
      go_wp2
      go_ret
      exact ⟨by rw [HF.out]; rfl, below_drewN hbel _⟩
    by_cases hk0 : k = 0
    case pos =>
      have HK := Lib.hid (show okR z lo hi k = true by unfold okR; rw [e0, hk0]; rfl)
      have hkd : decide (0 < k) = false := by simp; omega
      clear hk0
      go_wp2
      go_big_quiet ((go_at_call 73; exact still_quiet (calls_is (l00In_any _ _ _ _) (by assumption))))
      go_wp2
      go_roundw
      case rel => exact ⟨k + 1, by omega, by go_num, by rw [allB_succ, HA.out, HK.out]; rfl, below_drewN hbel _⟩
      case measure => simp [intOf]; omega
    obtain ⟨j, rfl⟩ : ∃ j, k = j + 1 := ⟨k - 1, by omega⟩
    clear hk0
    have d0 := (bcell hbel _ _ hl1).trans (HR.out j (by omega))
    simp only [Nat.zero_add] at d0
    by_cases hz : z j < z (j + 1)
    · have HK := Lib.hid (show okR z lo hi (j + 1) = true by unfold okR; rw [e0]; simpa using hz)
      have hzd : decide (z (j + 1) ≤ z j) = false := by simp; omega
      go_wp2
      go_big_quiet ((go_at_call 73; exact still_quiet (calls_is (l00In_any _ _ _ _) (by assumption))))
      go_wp2
      go_roundw
      case rel => exact ⟨j + 1 + 1, by omega, by go_num, by rw [allB_succ, HA.out, HK.out]; rfl, below_drewN hbel _⟩
      case measure => simp [intOf]; omega
    · have HF := Lib.hid (rise_out (n := n) (j + 1) hlt (show okR z lo hi (j + 1) = false by unfold okR; rw [e0]; simpa using hz))
      have hzd : z (j + 1) ≤ z j := by omega
      clear hz
      go_wp2
      go_big_quiet ((go_at_call 73; exact still_quiet (calls_is (l00In_any _ _ _ _) (by assumption))))
      go_wp2
      go_ret
      exact ⟨by rw [HF.out]; rfl, below_drewN hbel _⟩

set_option maxHeartbeats 2000000 in
theorem validStep_any (x0 : ByteArray) (x1 x2 : Int) (g nn : Nat) (z : Nat → Int) (w : World) (hs0 : x0.size ≤ maxLen) (hn : nn ≤ 1048576) (h1 : w.rowIs g 2 nn (rowInts z)) :
    Calls Try.prog 103 #[.agg #[.string x0, .int .i64 x1, .int .i64 x2, .slice (some ⟨g, 0, none⟩) nn nn]] w fun e w' => e = .returned (.bool (vStep x0 x1 x2 nn z)) ∧ (w.alloc (.cells #[.string x0, .int .i64 x1, .int .i64 x2, .slice (some ⟨g, 0, none⟩) nn nn] 128)) = w' := by
  have hl1 := h1.lt
  have HR := Lib.hid (RdInts.of_row h1)
  clear h1
  go_enter Try.func103, Try.ntmps103
  go_wp2
  go_loopw [8] (fun i wr => ∃ k : Nat, k ≤ nn ∧ i = .int .i64 k ∧ allB k (okR z 0 11) = true ∧ (w.alloc (.cells #[.string x0, .int .i64 x1, .int .i64 x2, .slice (some ⟨g, 0, none⟩) nn nn] 128)) = wr) (fun i _ => nn - (intOf i).toNat)
  case atStart => exact ⟨0, Nat.zero_le _, rfl, rfl, rfl⟩
  case round =>
    obtain ⟨k, hk, rfl, ha, rfl⟩ := hrel
    have HA := Lib.hid ha
    clear ha
    by_cases hlt : k < nn
    case neg =>
      obtain rfl : k = nn := by omega
      have HV := Lib.hid (show vStep x0 x1 x2 k z = (nameB x0 && (inB x1 1 200 && inB x2 0 20)) by unfold vStep riseB; rw [HA.out]; rfl)
      go_wp2_with (first | (go_at_call 138; refine (IsName_any _ _ hs0).mono ?_; rintro e w' ⟨rfl, rfl⟩) | (go_at_call 77; refine (within_any _ _ _ _).mono ?_; rintro e w' ⟨rfl, rfl⟩))
      all_goals (go_ret; exact ⟨by rw [HV.out]; simp [*], rfl⟩)
    have hlti : (k : Int) < (nn : Int) := by omega
    have hki : (0 : Int) ≤ (k : Int) := by omega
    have c0 : (w.alloc (.cells #[.string x0, .int .i64 x1, .int .i64 x2, .slice (some ⟨g, 0, none⟩) nn nn] 128)).cell? ⟨g, k, none⟩ = some (.int .i64 (z k)) := by rw [World.cell?_alloc_lt _ _ _ hl1]; have := HR.out k hlt; simpa using this
    by_cases e0 : inB (z k) 0 11 = true
    case neg =>
      have e0n : inB (z k) 0 11 = false := by simpa using e0
      clear e0
      have HF := Lib.hid (show vStep x0 x1 x2 nn z = false by unfold vStep; rw [rise_out (n := nn) k hlt (show okR z 0 11 k = false by unfold okR; rw [e0n]; rfl)]; rfl)
      go_wp2_with (first | (go_at_call 77; refine (within_any _ _ _ _).mono ?_; rintro e w' ⟨rfl, rfl⟩))
      go_ret
      exact ⟨by rw [HF.out]; rfl, rfl⟩
    by_cases hk0 : k = 0
    case pos =>
      have HK := Lib.hid (show okR z 0 11 k = true by unfold okR; rw [e0, hk0]; rfl)
      have hkd : decide (0 < k) = false := by simp; omega
      clear hk0
      go_wp2_with (first | (go_at_call 77; refine (within_any _ _ _ _).mono ?_; rintro e w' ⟨rfl, rfl⟩))
      go_roundw
      case rel => exact ⟨k + 1, by omega, by go_num, by rw [allB_succ, HA.out, HK.out]; rfl, by first | rfl | trivial⟩
      case measure => simp [intOf]; omega
    obtain ⟨j, rfl⟩ : ∃ j, k = j + 1 := ⟨k - 1, by omega⟩
    clear hk0
    have d0 : (w.alloc (.cells #[.string x0, .int .i64 x1, .int .i64 x2, .slice (some ⟨g, 0, none⟩) nn nn] 128)).cell? ⟨g, j, none⟩ = some (.int .i64 (z j)) := by rw [World.cell?_alloc_lt _ _ _ hl1]; have := HR.out j (by omega); simpa using this
    by_cases hz : z j < z (j + 1)
    · have HK := Lib.hid (show okR z 0 11 (j + 1) = true by unfold okR; rw [e0]; simpa using hz)
      have hzd : decide (z (j + 1) ≤ z j) = false := by simp; omega
      go_wp2_with (first | (go_at_call 77; refine (within_any _ _ _ _).mono ?_; rintro e w' ⟨rfl, rfl⟩))
      go_roundw
      case rel => exact ⟨j + 1 + 1, by omega, by go_num, by rw [allB_succ, HA.out, HK.out]; rfl, by first | rfl | trivial⟩
      case measure => simp [intOf]; omega
    · have HF := Lib.hid (show vStep x0 x1 x2 nn z = false by unfold vStep; rw [rise_out (n := nn) (j + 1) hlt (show okR z 0 11 (j + 1) = false by unfold okR; rw [e0]; simpa using hz)]; rfl)
      have hzd : z (j + 1) ≤ z j := by omega
      clear hz
      go_wp2_with (first | (go_at_call 77; refine (within_any _ _ _ _).mono ?_; rintro e w' ⟨rfl, rfl⟩))
      go_ret
      exact ⟨by rw [HF.out]; rfl, rfl⟩

theorem calls_bb {P : Program} {f : FuncId} {args : Array Value} {w : World} {x b : Bool} (h : Calls P f args w fun e w' => e = .returned (.bool x) ∧ Below w.heap.size w w') (hb : x = b) :
    Calls P f args w fun e w' => e = .returned (.bool b) ∧ Below w.heap.size w w' := hb ▸ h

set_option maxHeartbeats 1000000 in
theorem oneStep_any (b o : Nat) (x0 : ByteArray) (x1 x2 : Int) (g nn : Nat) (z : Nat → Int) (w : World) (hs0 : x0.size ≤ maxLen) (hn : nn ≤ 1048576) (hr : w.rowIs g 2 nn (rowInts z)) (h0 : w.cell? ⟨b, o, none⟩ = some (.string x0)) (h1 : w.cell? ⟨b, o + 1, none⟩ = some (.int .i64 x1)) (h2 : w.cell? ⟨b, o + 2, none⟩ = some (.int .i64 x2)) (h3 : w.cell? ⟨b, o + 3, none⟩ = some (.slice (some ⟨g, 0, none⟩) nn nn)) :
    Calls Try.prog 147 #[.pointer (some ⟨b, o, none⟩)] w fun e w' => e = .returned (.bool (vStep x0 x1 x2 nn z)) ∧ Below w.heap.size w w' := by
  have H1 := Lib.hid hr
  clear hr
  go_enter Try.func147, Try.ntmps147
  go_wp2_with (first | (go_at_call 136; refine (l01Name_any _ _ hs0).mono ?_; rintro e w' ⟨rfl, rfl⟩) | (go_at_call 73; refine (l00In_any _ _ _ _).mono ?_; rintro e w' ⟨rfl, rfl⟩) | (go_at_call 148; refine (l00Rises_any g nn z _ _ _ _ hn H1.out).mono ?_; rintro e w' ⟨rfl, hbel⟩))
  all_goals (go_ret; exact ⟨by simp [vStep, *], by first | assumption | exact Below.refl _ _⟩)

/-- The step at place i is valid, has a name of its own, and waits for earlier ones alone. -/
def okStep (F0 : Nat → ByteArray) (F1 F2 : Nat → Int) (N : Nat → Nat) (Z : Nat → Nat → Int) (i : Nat) : Bool := vStep (F0 i) (F1 i) (F2 i) (N i) (Z i) && (riseB (N i) (Z i) 0 ((i : Int) - 1) && !seenB F0 i (F0 i))

/-- A list of steps that is valid. -/
def listStep (n : Nat) (F0 : Nat → ByteArray) (F1 F2 : Nat → Int) (N : Nat → Nat) (Z : Nat → Nat → Int) : Bool := allB n (okStep F0 F1 F2 N Z) && decide ((n : Int) ≤ 12)

theorem listStep_out {n : Nat} {F0 : Nat → ByteArray} {F1 F2 : Nat → Int} {N : Nat → Nat} {Z : Nat → Nat → Int} (k : Nat) (hk : k < n) (h : okStep F0 F1 F2 N Z k = false) : listStep n F0 F1 F2 N Z = false := by
  unfold listStep; rw [allB_false k hk h]; rfl

theorem listStep_end {n : Nat} {F0 : Nat → ByteArray} {F1 F2 : Nat → Int} {N : Nat → Nat} {Z : Nat → Nat → Int} (h : allB n (okStep F0 F1 F2 N Z) = true) : listStep n F0 F1 F2 N Z = decide ((n : Int) ≤ 12) := by
  unfold listStep; rw [h]; rfl

theorem vStep_rise {x0 : ByteArray} {x1 x2 : Int} {nn : Nat} {z : Nat → Int} (h : vStep x0 x1 x2 nn z = true) : riseB nn z 0 11 = true := by
  unfold vStep at h; rw [Bool.and_eq_true] at h; exact h.1

theorem seen_at {F0 : Nat → ByteArray} {s : ByteArray} {j : Nat} (h : ((F0 j).toList == s.toList) = true) : ∀ k, j < k → seenB F0 k s = true
  | 0, hk => absurd hk (by omega)
  | k + 1, hk => by
    show ((F0 k).toList == s.toList || seenB F0 k s) = true
    by_cases e : j = k
    · subst e; rw [h]; rfl
    · rw [seen_at h k (by omega)]; simp

set_option maxHeartbeats 4000000 in
theorem OkStep_any (g n : Nat) (F0 : Nat → ByteArray) (F1 F2 : Nat → Int) (G N : Nat → Nat) (Z : Nat → Nat → Int) (w : World) (hn : n ≤ 1048576) (hN : ∀ i, i < n → N i ≤ 1048576) (h1 : DpStep w g n F0 F1 F2 G N Z) (hS0 : ∀ i, i < n → (F0 i).size ≤ maxLen) :
    Calls Try.prog 101 #[.slice (some ⟨g, 0, none⟩) n n] w fun e w' => e = .returned (.bool (listStep n F0 F1 F2 N Z)) ∧ Below w.heap.size w w' := by
  have hl1 := h1.1.lt
  have H1 := Lib.hid h1
  have HN := Lib.hid hN
  have HS0 := Lib.hid hS0
  clear h1 hN hS0
  go_enter Try.func101, Try.ntmps101
  go_wp2
  go_loopw [3] (fun i wr => ∃ (k : Nat), k ≤ n ∧ i = .int .i64 k ∧ Below w.heap.size w wr ∧ allB k (okStep F0 F1 F2 N Z) = true) (fun i _ => n - (intOf i).toNat)
  case atStart => exact ⟨0, Nat.zero_le _, rfl, Below.refl _ _, rfl⟩
  case round =>
    obtain ⟨k, hk, rfl, hbel, ha⟩ := hrel
    have HA := Lib.hid ha
    clear ha
    by_cases hlt : k < n
    case neg =>
      obtain rfl : k = n := by omega
      have HF := Lib.hid (listStep_end HA.out)
      go_wp2
      go_ret
      exact ⟨by rw [HF.out]; rfl, hbel⟩
    have hlti : (k : Int) < (n : Int) := by omega
    have hki : (0 : Int) ≤ (k : Int) := by omega
    have D := H1.out.below hbel
    have HD := Lib.hid D
    obtain ⟨c0, c1, c2, c3⟩ := D.at k hlt
    have HQ := Lib.hid (D.2 k hlt)
    have hgl : g < wr.heap.size := D.1.lt
    clear D
    have hs0 := HS0.out k hlt
    have hnk := HN.out k hlt
    by_cases hv : vStep (F0 k) (F1 k) (F2 k) (N k) (Z k) = true
    case neg =>
      have hv2 : vStep (F0 k) (F1 k) (F2 k) (N k) (Z k) = false := by simpa using hv
      clear hv
      have HF := Lib.hid (listStep_out (n := n) (F0 := F0) (F1 := F1) (F2 := F2) (N := N) (Z := Z) k hlt (by unfold okStep; rw [hv2]; rfl))
      go_wp2_with fail
      refine (oneStep_any _ _ _ _ _ _ _ (Z k) _ hs0 hnk HQ.out c0 c1 c2 c3).mono ?_
      rintro e w1 ⟨rfl, hb1⟩
      have hbel1 := hbel.trans (hb1.mono hbel.size)
      go_wp2
      go_ret
      exact ⟨by rw [HF.out]; rfl, hbel1⟩
    by_cases hr : riseB (N k) (Z k) 0 ((k : Int) - 1) = true
    case neg =>
      have hr2 : riseB (N k) (Z k) 0 ((k : Int) - 1) = false := by simpa using hr
      clear hr
      have HF := Lib.hid (listStep_out (n := n) (F0 := F0) (F1 := F1) (F2 := F2) (N := N) (Z := Z) k hlt (by unfold okStep; rw [hr2]; simp))
      go_wp2_with fail
      refine (oneStep_any _ _ _ _ _ _ _ (Z k) _ hs0 hnk HQ.out c0 c1 c2 c3).mono ?_
      rintro e w1 ⟨rfl, hb1⟩
      have hbel1 := hbel.trans (hb1.mono hbel.size)
      have HQ1 := Lib.hid (row_below HQ.out hb1 HQ.out.lt)
      have c3b := (bcell hb1 _ _ hgl).trans c3
      go_wp2_with fail
      refine (l00Rises_any _ _ (Z k) _ _ _ _ hnk HQ1.out).mono ?_
      rintro e w2 ⟨rfl, hb2⟩
      have hbel2 := hbel1.trans (hb2.mono hbel1.size)
      go_wp2
      go_ret
      exact ⟨by rw [HF.out]; rfl, hbel2⟩
    go_wp2_with fail
    refine (oneStep_any _ _ _ _ _ _ _ (Z k) _ hs0 hnk HQ.out c0 c1 c2 c3).mono ?_
    rintro e w1 ⟨rfl, hb1⟩
    have hbel1 := hbel.trans (hb1.mono hbel.size)
    have HQ1 := Lib.hid (row_below HQ.out hb1 HQ.out.lt)
    have c3b := (bcell hb1 _ _ hgl).trans c3
    go_wp2_with fail
    refine (l00Rises_any _ _ (Z k) _ _ _ _ hnk HQ1.out).mono ?_
    rintro e w2 ⟨rfl, hb2⟩
    have hbel2 := hbel1.trans (hb2.mono hbel1.size)
    have HVR := Lib.hid (And.intro hv hr)
    go_wp2
    clear hv hr hb1 hb2 hbel1 HQ1 c3b c0 c1 c2 c3 HQ
    go_loopw [5] (fun i wr2 => ∃ (j : Nat), j ≤ k ∧ i = .int .i64 j ∧ Below w.heap.size w wr2 ∧ seenB F0 j (F0 k) = false) (fun i _ => k - (intOf i).toNat)
    case atStart => exact ⟨0, Nat.zero_le _, rfl, hbel2, rfl⟩
    case round =>
      obtain ⟨j, hj, rfl, hbel3, hs⟩ := hrel
      have HS := Lib.hid hs
      clear hs
      have D := H1.out.below hbel3
      have hg3 : g < wr.heap.size := D.1.lt
      obtain ⟨a0, _, _, _⟩ := D.at k hlt
      by_cases hjk : j < k
      · obtain ⟨b0, _, _, _⟩ := D.at j (by omega)
        clear D
        have hji : (j : Int) < (k : Int) := by omega
        have hj0 : (0 : Int) ≤ (j : Int) := by omega
        have hjn : (j : Int) < (n : Int) := by omega
        cases he : ((F0 j).toList == (F0 k).toList) with
        | true =>
          have HF := Lib.hid (listStep_out (n := n) (F0 := F0) (F1 := F1) (F2 := F2) (N := N) (Z := Z) k hlt (by unfold okStep; rw [seen_at he k hjk]; simp))
          go_wp2
          go_big_quiet (fail)
          go_wp2
          go_ret
          exact ⟨by rw [HF.out]; rfl, below_drewN hbel3 _⟩
        | false =>
          have HS2 := Lib.hid (show seenB F0 (j + 1) (F0 k) = false by show ((F0 j).toList == (F0 k).toList || seenB F0 j (F0 k)) = false; rw [he, HS.out]; rfl)
          go_wp2
          go_big_quiet (fail)
          go_wp2
          go_roundw
          case rel => exact ⟨j + 1, by omega, by go_num, below_drewN hbel3 _, HS2.out⟩
          case measure => simp [intOf]; omega
      · obtain rfl : j = k := by omega
        have HK := Lib.hid (show okStep F0 F1 F2 N Z j = true by unfold okStep; rw [HVR.out.1, HVR.out.2, HS.out]; rfl)
        clear D a0
        go_wp2
        go_roundw
        case rel => exact ⟨j + 1, by omega, by go_num, hbel3, by rw [allB_succ, HA.out, HK.out]; rfl⟩
        case measure => simp [intOf]; omega
end Go.Proofs.Ytllmillhdmknpaa
