/- The contracts of the validity of the type Version and of its lists, in the program and in the reference: both are one and the same Bool. -/
import Derived.Test.YtllmillhdmknpaaVersionI
namespace Go.Proofs.Ytllmillhdmknpaa
open Go.RowKit
attribute [local go_sem ↓] Go.wp_at_zero Go.wp_at_succ
theorem bneT {a b : Int} (h : ¬ a = b) : (a != b) = true := by simpa using h
theorem bneF {a b : Int} (h : a = b) : (a != b) = false := by simpa using h
theorem lneF {a b : List UInt8} (h : (a == b) = true) : (a != b) = false := by simpa using h
theorem lneT {a b : List UInt8} (h : (a == b) = false) : (a != b) = true := by simpa using h

theorem beqT {a b : Int} (h : a = b) : (a == b) = true := by simpa using h
theorem beqF {a b : Int} (h : ¬ a = b) : (a == b) = false := by simpa using h

theorem calls_b {P : Program} {f : FuncId} {args : Array Value} {w : World} {x b : Bool} (h : Calls P f args w fun e w' => e = .returned (.bool x) ∧ Below w.heap.size w w') (hb : x = b) :
    Calls P f args w fun e w' => e = .returned (.bool b) ∧ Below w.heap.size w w' := hb ▸ h

/-- Two settings are equal; two lists of settings are equal. -/
def oneS (y1 : Nat → ByteArray) (v1 : Nat → Int) (y2 : Nat → ByteArray) (v2 : Nat → Int) (i : Nat) : Bool := ((y1 i).toList == (y2 i).toList) && decide (v1 i = v2 i)
def sameS (n1 : Nat) (y1 : Nat → ByteArray) (v1 : Nat → Int) (n2 : Nat) (y2 : Nat → ByteArray) (v2 : Nat → Int) : Bool := decide (n1 = n2) && allB n1 (oneS y1 v1 y2 v2)

theorem sameS_out {n1 n2 : Nat} {y1 : Nat → ByteArray} {v1 : Nat → Int} {y2 : Nat → ByteArray} {v2 : Nat → Int} (k : Nat) (hk : k < n1) (h : oneS y1 v1 y2 v2 k = false) : sameS n1 y1 v1 n2 y2 v2 = false := by
  unfold sameS; rw [allB_false k hk h]; simp

set_option maxHeartbeats 2000000 in
theorem same_any (g1 n1 : Nat) (y1 : Nat → ByteArray) (v1 : Nat → Int) (g2 n2 : Nat) (y2 : Nat → ByteArray) (v2 : Nat → Int) (w : World) (hn1 : n1 ≤ 1048576) (hn2 : n2 ≤ 1048576) (r1 : w.rowIs g1 143 (n1 * 2) (flat 2 (rowSetting y1 v1))) (r2 : w.rowIs g2 143 (n2 * 2) (flat 2 (rowSetting y2 v2))) :
    Calls Try.prog 110 #[.slice (some ⟨g1, 0, none⟩) n1 n1, .slice (some ⟨g2, 0, none⟩) n2 n2] w fun e w' => e = .returned (.bool (sameS n1 y1 v1 n2 y2 v2)) ∧ Below w.heap.size w w' := by
  by_cases hnn : n1 = n2
  case neg =>
    have HF := Lib.hid (show sameS n1 y1 v1 n2 y2 v2 = false by unfold sameS; rw [decide_eq_false hnn]; rfl)
    have hq : ((n1 : Int) == (n2 : Int)) = false := beqF (by omega)
    clear hnn r1 r2
    go_enter Try.func110, Try.ntmps110
    go_wp2
    go_ret
    exact ⟨by rw [HF.out]; rfl, Below.refl _ _⟩
  subst hnn
  have hl1 := r1.lt
  have hl2 := r2.lt
  have HR1 := Lib.hid (RdSetting.of_row r1)
  have HR2 := Lib.hid (RdSetting.of_row r2)
  clear r1 r2
  go_enter Try.func110, Try.ntmps110
  go_wp2
  go_loopw [13] (fun i wr => ∃ (k : Nat), k ≤ n1 ∧ i = .int .i64 k ∧ allB k (oneS y1 v1 y2 v2) = true ∧ Below w.heap.size w wr) (fun i _ => n1 - (intOf i).toNat)
  case atStart => exact ⟨0, Nat.zero_le _, rfl, rfl, Below.refl _ _⟩
  case round =>
    obtain ⟨k, hk, rfl, ha, hbel⟩ := hrel
    have HA := Lib.hid ha
    clear ha
    by_cases hlt : k < n1
    case neg =>
      obtain rfl : k = n1 := by omega
      have HF := Lib.hid (show sameS k y1 v1 k y2 v2 = true by unfold sameS; rw [decide_eq_true rfl, HA.out]; rfl)
      go_wp2
      go_ret
      exact ⟨by rw [HF.out]; rfl, hbel⟩
    have hlti : (k : Int) < (n1 : Int) := by omega
    have hki : (0 : Int) ≤ (k : Int) := by omega
    obtain ⟨c0, c1⟩ := HR1.out k hlt
    obtain ⟨d0, d1⟩ := HR2.out k hlt
    rw [← bcell hbel _ _ hl1] at c0 c1
    rw [← bcell hbel _ _ hl2] at d0 d1
    simp only [Nat.zero_add] at c0 c1 d0 d1
    cases hy : ((y1 k).toList == (y2 k).toList) with
    | false =>
      have HF := Lib.hid (sameS_out (n1 := n1) (n2 := n1) k hlt (show oneS y1 v1 y2 v2 k = false by unfold oneS; rw [hy]; rfl))
      go_wp2
      go_big_quiet (fail)
      go_wp2
      go_ret
      exact ⟨by rw [HF.out]; rfl, below_drewN hbel _⟩
    | true =>
      by_cases hv : v1 k = v2 k
      case neg =>
        have HF := Lib.hid (sameS_out (n1 := n1) (n2 := n1) k hlt (show oneS y1 v1 y2 v2 k = false by unfold oneS; rw [hy, decide_eq_false hv]; rfl))
        have hvb : (v1 k == v2 k) = false := beqF hv
        clear hv
        go_wp2
        go_big_quiet (fail)
        go_wp2
        go_ret
        exact ⟨by rw [HF.out]; rfl, below_drewN hbel _⟩
      have HK := Lib.hid (show oneS y1 v1 y2 v2 k = true by unfold oneS; rw [hy, decide_eq_true hv]; rfl)
      have hvb : (v1 k == v2 k) = true := beqT hv
      clear hv
      go_wp2
      go_big_quiet (fail)
      go_wp2
      go_roundw
      case rel => exact ⟨k + 1, by omega, by go_num, by rw [allB_succ, HA.out, HK.out]; rfl, below_drewN hbel _⟩
      case measure => simp [intOf]; omega

set_option maxHeartbeats 2000000 in
theorem l27Same_any (g1 n1 : Nat) (y1 : Nat → ByteArray) (v1 : Nat → Int) (g2 n2 : Nat) (y2 : Nat → ByteArray) (v2 : Nat → Int) (w : World) (hn1 : n1 ≤ 1048576) (hn2 : n2 ≤ 1048576) (r1 : w.rowIs g1 143 (n1 * 2) (flat 2 (rowSetting y1 v1))) (r2 : w.rowIs g2 143 (n2 * 2) (flat 2 (rowSetting y2 v2))) :
    Calls Try.prog 106 #[.slice (some ⟨g1, 0, none⟩) n1 n1, .slice (some ⟨g2, 0, none⟩) n2 n2] w fun e w' => e = .returned (.bool (sameS n1 y1 v1 n2 y2 v2)) ∧ Below w.heap.size w w' := by
  by_cases hnn : n1 = n2
  case neg =>
    have HF := Lib.hid (show sameS n1 y1 v1 n2 y2 v2 = false by unfold sameS; rw [decide_eq_false hnn]; rfl)
    have hq : ((n1 : Int) == (n2 : Int)) = false := beqF (by omega)
    clear hnn r1 r2
    go_enter Try.func106, Try.ntmps106
    go_wp2
    go_ret
    exact ⟨by rw [HF.out]; rfl, Below.refl _ _⟩
  subst hnn
  have hl1 := r1.lt
  have hl2 := r2.lt
  have HR1 := Lib.hid (RdSetting.of_row r1)
  have HR2 := Lib.hid (RdSetting.of_row r2)
  clear r1 r2
  go_enter Try.func106, Try.ntmps106
  go_wp2
  go_loopw [5] (fun i wr => ∃ (k : Nat), k ≤ n1 ∧ i = .int .i64 k ∧ allB k (oneS y1 v1 y2 v2) = true ∧ Below w.heap.size w wr) (fun i _ => n1 - (intOf i).toNat)
  case atStart => exact ⟨0, Nat.zero_le _, rfl, rfl, Below.refl _ _⟩
  case round =>
    obtain ⟨k, hk, rfl, ha, hbel⟩ := hrel
    have HA := Lib.hid ha
    clear ha
    by_cases hlt : k < n1
    case neg =>
      obtain rfl : k = n1 := by omega
      have HF := Lib.hid (show sameS k y1 v1 k y2 v2 = true by unfold sameS; rw [decide_eq_true rfl, HA.out]; rfl)
      go_wp2
      go_ret
      exact ⟨by rw [HF.out]; rfl, hbel⟩
    have hlti : (k : Int) < (n1 : Int) := by omega
    have hki : (0 : Int) ≤ (k : Int) := by omega
    obtain ⟨c0, c1⟩ := HR1.out k hlt
    obtain ⟨d0, d1⟩ := HR2.out k hlt
    rw [← bcell hbel _ _ hl1] at c0 c1
    rw [← bcell hbel _ _ hl2] at d0 d1
    simp only [Nat.zero_add] at c0 c1 d0 d1
    cases hy : ((y1 k).toList == (y2 k).toList) with
    | false =>
      have HF := Lib.hid (sameS_out (n1 := n1) (n2 := n1) k hlt (show oneS y1 v1 y2 v2 k = false by unfold oneS; rw [hy]; rfl))
      go_wp2
      go_big_quiet (fail)
      go_wp2
      go_ret
      exact ⟨by rw [HF.out]; rfl, below_drewN hbel _⟩
    | true =>
      by_cases hv : v1 k = v2 k
      case neg =>
        have HF := Lib.hid (sameS_out (n1 := n1) (n2 := n1) k hlt (show oneS y1 v1 y2 v2 k = false by unfold oneS; rw [hy, decide_eq_false hv]; rfl))
        have hvb : (v1 k == v2 k) = false := beqF hv
        clear hv
        go_wp2
        go_big_quiet (fail)
        go_wp2
        go_ret
        exact ⟨by rw [HF.out]; rfl, below_drewN hbel _⟩
      have HK := Lib.hid (show oneS y1 v1 y2 v2 k = true by unfold oneS; rw [hy, decide_eq_true hv]; rfl)
      have hvb : (v1 k == v2 k) = true := beqT hv
      clear hv
      go_wp2
      go_big_quiet (fail)
      go_wp2
      go_roundw
      case rel => exact ⟨k + 1, by omega, by go_num, by rw [allB_succ, HA.out, HK.out]; rfl, below_drewN hbel _⟩
      case measure => simp [intOf]; omega

/-- Two versions are equal. -/
def sameV (x0 x1 : Int) (x2 : ByteArray) (n1 : Nat) (y1 : Nat → ByteArray) (v1 : Nat → Int) (u0 u1 : Int) (u2 : ByteArray) (n2 : Nat) (y2 : Nat → ByteArray) (v2 : Nat → Int) : Bool := decide (x0 = u0) && (decide (x1 = u1) && ((x2.toList == u2.toList) && sameS n1 y1 v1 n2 y2 v2))

set_option maxHeartbeats 2000000 in
theorem sameV_any (x0 x1 : Int) (x2 : ByteArray) (g1 n1 : Nat) (y1 : Nat → ByteArray) (v1 : Nat → Int) (u0 u1 : Int) (u2 : ByteArray) (g2 n2 : Nat) (y2 : Nat → ByteArray) (v2 : Nat → Int) (w : World) (hn1 : n1 ≤ 1048576) (hn2 : n2 ≤ 1048576) (r1 : w.rowIs g1 143 (n1 * 2) (flat 2 (rowSetting y1 v1))) (r2 : w.rowIs g2 143 (n2 * 2) (flat 2 (rowSetting y2 v2))) :
    Calls Try.prog 109 #[.agg #[.int .i64 x0, .int .i64 x1, .string x2, .slice (some ⟨g1, 0, none⟩) n1 n1], .agg #[.int .i64 u0, .int .i64 u1, .string u2, .slice (some ⟨g2, 0, none⟩) n2 n2]] w fun e w' => e = .returned (.bool (sameV x0 x1 x2 n1 y1 v1 u0 u1 u2 n2 y2 v2)) ∧ Below w.heap.size w w' := by
  have R1 := Lib.hid ((r1.alloc (.cells #[.int .i64 x0, .int .i64 x1, .string x2, .slice (some ⟨g1, 0, none⟩) n1 n1] 138)).alloc (.cells #[.int .i64 u0, .int .i64 u1, .string u2, .slice (some ⟨g2, 0, none⟩) n2 n2] 138))
  have R2 := Lib.hid ((r2.alloc (.cells #[.int .i64 x0, .int .i64 x1, .string x2, .slice (some ⟨g1, 0, none⟩) n1 n1] 138)).alloc (.cells #[.int .i64 u0, .int .i64 u1, .string u2, .slice (some ⟨g2, 0, none⟩) n2 n2] 138))
  have C0 := (below_new w (.cells #[.int .i64 x0, .int .i64 x1, .string x2, .slice (some ⟨g1, 0, none⟩) n1 n1] 138)).alloc (by simp) (.cells #[.int .i64 u0, .int .i64 u1, .string u2, .slice (some ⟨g2, 0, none⟩) n2 n2] 138)
  clear r1 r2
  by_cases e0 : x0 = u0
  case neg =>
    have HF := Lib.hid (show sameV x0 x1 x2 n1 y1 v1 u0 u1 u2 n2 y2 v2 = false by unfold sameV; rw [decide_eq_false e0]; rfl)
    have b0 : (x0 == u0) = false := beqF e0
    clear e0
    go_enter Try.func109, Try.ntmps109
    go_wp2
    go_ret
    exact ⟨by rw [HF.out]; rfl, C0⟩
  by_cases e1 : x1 = u1
  case neg =>
    have HF := Lib.hid (show sameV x0 x1 x2 n1 y1 v1 u0 u1 u2 n2 y2 v2 = false by unfold sameV; rw [decide_eq_true e0, decide_eq_false e1]; rfl)
    have b1 : (x1 == u1) = false := beqF e1
    have b0 : (x0 == u0) = true := beqT e0
    clear e0 e1
    go_enter Try.func109, Try.ntmps109
    go_wp2
    go_ret
    exact ⟨by rw [HF.out]; rfl, C0⟩
  cases e2 : (x2.toList == u2.toList) with
  | false =>
    have HF := Lib.hid (show sameV x0 x1 x2 n1 y1 v1 u0 u1 u2 n2 y2 v2 = false by unfold sameV; rw [decide_eq_true e0, decide_eq_true e1, e2]; rfl)
    have b0 : (x0 == u0) = true := beqT e0
    have b1 : (x1 == u1) = true := beqT e1
    clear e0 e1
    go_enter Try.func109, Try.ntmps109
    go_wp2
    go_ret
    exact ⟨by rw [HF.out]; rfl, C0⟩
  | true =>
    have HF := Lib.hid (show sameV x0 x1 x2 n1 y1 v1 u0 u1 u2 n2 y2 v2 = sameS n1 y1 v1 n2 y2 v2 by unfold sameV; rw [decide_eq_true e0, decide_eq_true e1, e2]; rfl)
    have b0 : (x0 == u0) = true := beqT e0
    have b1 : (x1 == u1) = true := beqT e1
    clear e0 e1
    go_enter Try.func109, Try.ntmps109
    go_wp2_with fail
    refine (same_any g1 n1 y1 v1 g2 n2 y2 v2 _ hn1 hn2 R1.out R2.out).mono ?_
    rintro e w1 ⟨rfl, hb⟩
    have C1 := C0.trans (hb.mono C0.size)
    go_wp2
    go_ret
    exact ⟨by rw [HF.out]; rfl, C1⟩

/-- The versions at place i are equal; two lists of versions are equal. -/
def oneL (F0 F1 : Nat → Int) (F2 : Nat → ByteArray) (N1 : Nat → Nat) (Y1 : Nat → Nat → ByteArray) (V1 : Nat → Nat → Int) (H0 H1 : Nat → Int) (H2 : Nat → ByteArray) (N2 : Nat → Nat) (Y2 : Nat → Nat → ByteArray) (V2 : Nat → Nat → Int) (i : Nat) : Bool := sameV (F0 i) (F1 i) (F2 i) (N1 i) (Y1 i) (V1 i) (H0 i) (H1 i) (H2 i) (N2 i) (Y2 i) (V2 i)
def sameL (n m : Nat) (F0 F1 : Nat → Int) (F2 : Nat → ByteArray) (N1 : Nat → Nat) (Y1 : Nat → Nat → ByteArray) (V1 : Nat → Nat → Int) (H0 H1 : Nat → Int) (H2 : Nat → ByteArray) (N2 : Nat → Nat) (Y2 : Nat → Nat → ByteArray) (V2 : Nat → Nat → Int) : Bool := decide (n = m) && allB n (oneL F0 F1 F2 N1 Y1 V1 H0 H1 H2 N2 Y2 V2)

theorem sameL_out {n m : Nat} {F0 F1 : Nat → Int} {F2 : Nat → ByteArray} {N1 : Nat → Nat} {Y1 : Nat → Nat → ByteArray} {V1 : Nat → Nat → Int} {H0 H1 : Nat → Int} {H2 : Nat → ByteArray} {N2 : Nat → Nat} {Y2 : Nat → Nat → ByteArray} {V2 : Nat → Nat → Int} (k : Nat) (hk : k < n) (h : oneL F0 F1 F2 N1 Y1 V1 H0 H1 H2 N2 Y2 V2 k = false) : sameL n m F0 F1 F2 N1 Y1 V1 H0 H1 H2 N2 Y2 V2 = false := by
  unfold sameL; rw [allB_false k hk h]; simp

set_option maxHeartbeats 4000000 in
theorem EqualFunc_any (g1 g2 n m : Nat) (F0 F1 : Nat → Int) (F2 : Nat → ByteArray) (N1 : Nat → Nat) (Y1 : Nat → Nat → ByteArray) (V1 : Nat → Nat → Int) (H0 H1 : Nat → Int) (H2 : Nat → ByteArray) (N2 : Nat → Nat) (Y2 : Nat → Nat → ByteArray) (V2 : Nat → Nat → Int) (G1 G2 : Nat → Nat) (w : World) (hn : n ≤ 1048576) (hm : m ≤ 1048576) (hN1 : ∀ i, i < n → N1 i ≤ 1048576) (hN2 : ∀ i, i < m → N2 i ≤ 1048576) (h1 : DpVersion w g1 n F0 F1 F2 G1 N1 Y1 V1) (h2 : DpVersion w g2 m H0 H1 H2 G2 N2 Y2 V2) :
    Calls Try.prog 108 #[.slice (some ⟨g1, 0, none⟩) n n, .slice (some ⟨g2, 0, none⟩) m m, .func (.func 109) #[] #[]] w fun e w' => e = .returned (.bool (sameL n m F0 F1 F2 N1 Y1 V1 H0 H1 H2 N2 Y2 V2)) ∧ Below w.heap.size w w' := by
  by_cases hnn : n = m
  case neg =>
    have HF := Lib.hid (show sameL n m F0 F1 F2 N1 Y1 V1 H0 H1 H2 N2 Y2 V2 = false by unfold sameL; rw [decide_eq_false hnn]; rfl)
    have hq : ((n : Int) == (m : Int)) = false := beqF (by omega)
    clear hnn h1 h2
    go_enter Try.func108, Try.ntmps108
    go_wp2
    go_ret
    exact ⟨by rw [HF.out]; rfl, Below.refl _ _⟩
  subst hnn
  have DA := Lib.hid h1
  have DB := Lib.hid h2
  have HN1 := Lib.hid hN1
  have HN2 := Lib.hid hN2
  clear h1 h2 hN1 hN2
  go_enter Try.func108, Try.ntmps108
  go_wp2
  go_loopw [17] (fun i wr => ∃ (k : Nat), k ≤ n ∧ i = .int .i64 k ∧ allB k (oneL F0 F1 F2 N1 Y1 V1 H0 H1 H2 N2 Y2 V2) = true ∧ Below w.heap.size w wr) (fun i _ => n - (intOf i).toNat)
  case atStart => exact ⟨0, Nat.zero_le _, rfl, rfl, Below.refl _ _⟩
  case round =>
    obtain ⟨k, hk, rfl, ha, hbel⟩ := hrel
    have HA := Lib.hid ha
    clear ha
    by_cases hlt : k < n
    case neg =>
      obtain rfl : k = n := by omega
      have HF := Lib.hid (show sameL k k F0 F1 F2 N1 Y1 V1 H0 H1 H2 N2 Y2 V2 = true by unfold sameL; rw [decide_eq_true rfl, HA.out]; rfl)
      go_wp2
      go_ret
      exact ⟨by rw [HF.out]; rfl, hbel⟩
    have hlti : (k : Int) < (n : Int) := by omega
    have hki : (0 : Int) ≤ (k : Int) := by omega
    have D1 := DA.out.below hbel
    have D2 := DB.out.below hbel
    obtain ⟨c0, c1, c2, c3⟩ := D1.at k hlt
    obtain ⟨d0, d1, d2, d3⟩ := D2.at k hlt
    have hg1 : g1 < wr.heap.size := D1.1.lt
    have hg2 : g2 < wr.heap.size := D2.1.lt
    have HQ1 := Lib.hid (D1.2 k hlt)
    have HQ2 := Lib.hid (D2.2 k hlt)
    have hn1 := HN1.out k hlt
    have hn2 := HN2.out k hlt
    clear D1 D2
    go_wp2_with fail
    refine (sameV_any _ _ _ _ _ (Y1 k) (V1 k) _ _ _ _ _ (Y2 k) (V2 k) _ hn1 hn2 ((HQ1.out.alloc _).alloc _) ((HQ2.out.alloc _).alloc _)).mono ?_
    rintro e w1 ⟨rfl, hb⟩
    have C0 := (hbel.alloc hbel.size (.cells #[.int .i64 (F0 k), .int .i64 (F1 k), .string (F2 k), .slice (some ⟨G1 k, 0, none⟩) (N1 k) (N1 k)] 138)).alloc (by have := hbel.size; simp; omega) (.cells #[.int .i64 (H0 k), .int .i64 (H1 k), .string (H2 k), .slice (some ⟨G2 k, 0, none⟩) (N2 k) (N2 k)] 138)
    have C1 := C0.trans (hb.mono (by have := hbel.size; simp; omega))
    clear C0 hb c0 c1 c2 c3 d0 d1 d2 d3
    cases hs : sameV (F0 k) (F1 k) (F2 k) (N1 k) (Y1 k) (V1 k) (H0 k) (H1 k) (H2 k) (N2 k) (Y2 k) (V2 k) with
    | false =>
      have HF := Lib.hid (sameL_out (n := n) (m := n) (F0 := F0) (F1 := F1) (F2 := F2) (N1 := N1) (Y1 := Y1) (V1 := V1) (H0 := H0) (H1 := H1) (H2 := H2) (N2 := N2) (Y2 := Y2) (V2 := V2) k hlt hs)
      go_wp2
      go_ret
      exact ⟨by rw [HF.out]; rfl, C1⟩
    | true =>
      have HK := Lib.hid (show oneL F0 F1 F2 N1 Y1 V1 H0 H1 H2 N2 Y2 V2 k = true from hs)
      go_wp2
      go_roundw
      case rel => exact ⟨k + 1, by omega, by go_num, by rw [allB_succ, HA.out, HK.out]; rfl, C1⟩
      case measure => simp [intOf]; omega

set_option maxHeartbeats 4000000 in
theorem specSame_any (g1 g2 n m : Nat) (F0 F1 : Nat → Int) (F2 : Nat → ByteArray) (N1 : Nat → Nat) (Y1 : Nat → Nat → ByteArray) (V1 : Nat → Nat → Int) (H0 H1 : Nat → Int) (H2 : Nat → ByteArray) (N2 : Nat → Nat) (Y2 : Nat → Nat → ByteArray) (V2 : Nat → Nat → Int) (G1 G2 : Nat → Nat) (w : World) (hn : n ≤ 1048576) (hm : m ≤ 1048576) (hN1 : ∀ i, i < n → N1 i ≤ 1048576) (hN2 : ∀ i, i < m → N2 i ≤ 1048576) (h1 : DpVersion w g1 n F0 F1 F2 G1 N1 Y1 V1) (h2 : DpVersion w g2 m H0 H1 H2 G2 N2 Y2 V2) :
    Calls Try.prog 45 #[.slice (some ⟨g1, 0, none⟩) n n, .slice (some ⟨g2, 0, none⟩) m m] w fun e w' => e = .returned (.bool (sameL n m F0 F1 F2 N1 Y1 V1 H0 H1 H2 N2 Y2 V2)) ∧ Below w.heap.size w w' := by
  by_cases hnn : n = m
  case neg =>
    have HF := Lib.hid (show sameL n m F0 F1 F2 N1 Y1 V1 H0 H1 H2 N2 Y2 V2 = false by unfold sameL; rw [decide_eq_false hnn]; rfl)
    have hq : ((n : Int) == (m : Int)) = false := beqF (by omega)
    clear hnn h1 h2
    go_enter Try.func45, Try.ntmps45
    go_wp2
    go_ret
    exact ⟨by rw [HF.out]; rfl, Below.refl _ _⟩
  subst hnn
  have DA := Lib.hid h1
  have DB := Lib.hid h2
  have HN1 := Lib.hid hN1
  have HN2 := Lib.hid hN2
  clear h1 h2 hN1 hN2
  go_enter Try.func45, Try.ntmps45
  go_wp2
  go_loopw [5] (fun i wr => ∃ (k : Nat), k ≤ n ∧ i = .int .i64 k ∧ allB k (oneL F0 F1 F2 N1 Y1 V1 H0 H1 H2 N2 Y2 V2) = true ∧ Below w.heap.size w wr) (fun i _ => n - (intOf i).toNat)
  case atStart => exact ⟨0, Nat.zero_le _, rfl, rfl, Below.refl _ _⟩
  case round =>
    obtain ⟨k, hk, rfl, ha, hbel⟩ := hrel
    have HA := Lib.hid ha
    clear ha
    by_cases hlt : k < n
    case neg =>
      obtain rfl : k = n := by omega
      have HF := Lib.hid (show sameL k k F0 F1 F2 N1 Y1 V1 H0 H1 H2 N2 Y2 V2 = true by unfold sameL; rw [decide_eq_true rfl, HA.out]; rfl)
      go_wp2
      go_ret
      exact ⟨by rw [HF.out]; rfl, hbel⟩
    have hlti : (k : Int) < (n : Int) := by omega
    have hki : (0 : Int) ≤ (k : Int) := by omega
    have D1 := DA.out.below hbel
    have D2 := DB.out.below hbel
    obtain ⟨c0, c1, c2, c3⟩ := D1.at k hlt
    obtain ⟨d0, d1, d2, d3⟩ := D2.at k hlt
    have hg1 : g1 < wr.heap.size := D1.1.lt
    have hg2 : g2 < wr.heap.size := D2.1.lt
    have HQ1 := Lib.hid (D1.2 k hlt)
    have HQ2 := Lib.hid (D2.2 k hlt)
    have hn1 := HN1.out k hlt
    have hn2 := HN2.out k hlt
    clear D1 D2
    by_cases e0 : F0 k = H0 k
    case neg =>
      have HF := Lib.hid (sameL_out (n := n) (m := n) (F0 := F0) (F1 := F1) (F2 := F2) (N1 := N1) (Y1 := Y1) (V1 := V1) (H0 := H0) (H1 := H1) (H2 := H2) (N2 := N2) (Y2 := Y2) (V2 := V2) k hlt (show sameV (F0 k) (F1 k) (F2 k) (N1 k) (Y1 k) (V1 k) (H0 k) (H1 k) (H2 k) (N2 k) (Y2 k) (V2 k) = false by unfold sameV; rw [decide_eq_false e0]; rfl))
      have b0 : (F0 k != H0 k) = true := bneT e0
      clear e0
      go_wp2
      have cy0 := Ext.cell (W := wr) (b := g1) (o := k * 4) (u := .int .i64 (F0 k)) c0 hg1
      have cy1 := Ext.cell (W := wr) (b := g1) (o := k * 4 + 1) (u := .int .i64 (F1 k)) c1 hg1
      have cy2 := Ext.cell (W := wr) (b := g1) (o := k * 4 + 2) (u := .string (F2 k)) c2 hg1
      have cy3 := Ext.cell (W := wr) (b := g1) (o := k * 4 + 3) (u := .slice (some ⟨G1 k, 0, none⟩) (N1 k) (N1 k)) c3 hg1
      have dy0 := Ext.cell (W := wr) (b := g2) (o := k * 4) (u := .int .i64 (H0 k)) d0 hg2
      have dy1 := Ext.cell (W := wr) (b := g2) (o := k * 4 + 1) (u := .int .i64 (H1 k)) d1 hg2
      have dy2 := Ext.cell (W := wr) (b := g2) (o := k * 4 + 2) (u := .string (H2 k)) d2 hg2
      have dy3 := Ext.cell (W := wr) (b := g2) (o := k * 4 + 3) (u := .slice (some ⟨G2 k, 0, none⟩) (N2 k) (N2 k)) d3 hg2
      refine wp_region_ext (by kernel_rfl) (by kernel_rfl) ?_
      repeat (go_big_quiet_step ((go_at_call 106; exact ext_call (calls_b (l27Same_any _ _ (Y1 k) (V1 k) _ _ (Y2 k) (V2 k) _ hn1 hn2 (row_below HQ1.out (Ext.h _) HQ1.out.lt) (row_below HQ2.out (Ext.h _) HQ2.out.lt)) (by assumption)))))
      refine wpQuiet_nil ?_
      intro W1 hx
      obtain ⟨x, hx⟩ := hx
      have hW1 := x.h
      rw [← hx] at hW1
      have hB := hbel.trans (hW1.mono hbel.size)
      clear hx x hW1 cy0 c0 cy1 c1 cy2 c2 cy3 c3 dy0 d0 dy1 d1 dy2 d2 dy3 d3
      go_wp2
      go_ret
      exact ⟨by rw [HF.out]; rfl, hB⟩
    by_cases e1 : F1 k = H1 k
    case neg =>
      have HF := Lib.hid (sameL_out (n := n) (m := n) (F0 := F0) (F1 := F1) (F2 := F2) (N1 := N1) (Y1 := Y1) (V1 := V1) (H0 := H0) (H1 := H1) (H2 := H2) (N2 := N2) (Y2 := Y2) (V2 := V2) k hlt (show sameV (F0 k) (F1 k) (F2 k) (N1 k) (Y1 k) (V1 k) (H0 k) (H1 k) (H2 k) (N2 k) (Y2 k) (V2 k) = false by unfold sameV; rw [decide_eq_true e0, decide_eq_false e1]; rfl))
      have b1 : (F1 k != H1 k) = true := bneT e1
      have b0 : (F0 k != H0 k) = false := bneF e0
      clear e0 e1
      go_wp2
      have cy0 := Ext.cell (W := wr) (b := g1) (o := k * 4) (u := .int .i64 (F0 k)) c0 hg1
      have cy1 := Ext.cell (W := wr) (b := g1) (o := k * 4 + 1) (u := .int .i64 (F1 k)) c1 hg1
      have cy2 := Ext.cell (W := wr) (b := g1) (o := k * 4 + 2) (u := .string (F2 k)) c2 hg1
      have cy3 := Ext.cell (W := wr) (b := g1) (o := k * 4 + 3) (u := .slice (some ⟨G1 k, 0, none⟩) (N1 k) (N1 k)) c3 hg1
      have dy0 := Ext.cell (W := wr) (b := g2) (o := k * 4) (u := .int .i64 (H0 k)) d0 hg2
      have dy1 := Ext.cell (W := wr) (b := g2) (o := k * 4 + 1) (u := .int .i64 (H1 k)) d1 hg2
      have dy2 := Ext.cell (W := wr) (b := g2) (o := k * 4 + 2) (u := .string (H2 k)) d2 hg2
      have dy3 := Ext.cell (W := wr) (b := g2) (o := k * 4 + 3) (u := .slice (some ⟨G2 k, 0, none⟩) (N2 k) (N2 k)) d3 hg2
      refine wp_region_ext (by kernel_rfl) (by kernel_rfl) ?_
      repeat (go_big_quiet_step ((go_at_call 106; exact ext_call (calls_b (l27Same_any _ _ (Y1 k) (V1 k) _ _ (Y2 k) (V2 k) _ hn1 hn2 (row_below HQ1.out (Ext.h _) HQ1.out.lt) (row_below HQ2.out (Ext.h _) HQ2.out.lt)) (by assumption)))))
      refine wpQuiet_nil ?_
      intro W1 hx
      obtain ⟨x, hx⟩ := hx
      have hW1 := x.h
      rw [← hx] at hW1
      have hB := hbel.trans (hW1.mono hbel.size)
      clear hx x hW1 cy0 c0 cy1 c1 cy2 c2 cy3 c3 dy0 d0 dy1 d1 dy2 d2 dy3 d3
      go_wp2
      go_ret
      exact ⟨by rw [HF.out]; rfl, hB⟩
    cases e2 : ((F2 k).toList == (H2 k).toList) with
    | false =>
      have HF := Lib.hid (sameL_out (n := n) (m := n) (F0 := F0) (F1 := F1) (F2 := F2) (N1 := N1) (Y1 := Y1) (V1 := V1) (H0 := H0) (H1 := H1) (H2 := H2) (N2 := N2) (Y2 := Y2) (V2 := V2) k hlt (show sameV (F0 k) (F1 k) (F2 k) (N1 k) (Y1 k) (V1 k) (H0 k) (H1 k) (H2 k) (N2 k) (Y2 k) (V2 k) = false by unfold sameV; rw [decide_eq_true e0, decide_eq_true e1, e2]; rfl))
      have b0 : (F0 k != H0 k) = false := bneF e0
      have b1 : (F1 k != H1 k) = false := bneF e1
      have b2 := lneT e2
      clear e0 e1
      go_wp2
      have cy0 := Ext.cell (W := wr) (b := g1) (o := k * 4) (u := .int .i64 (F0 k)) c0 hg1
      have cy1 := Ext.cell (W := wr) (b := g1) (o := k * 4 + 1) (u := .int .i64 (F1 k)) c1 hg1
      have cy2 := Ext.cell (W := wr) (b := g1) (o := k * 4 + 2) (u := .string (F2 k)) c2 hg1
      have cy3 := Ext.cell (W := wr) (b := g1) (o := k * 4 + 3) (u := .slice (some ⟨G1 k, 0, none⟩) (N1 k) (N1 k)) c3 hg1
      have dy0 := Ext.cell (W := wr) (b := g2) (o := k * 4) (u := .int .i64 (H0 k)) d0 hg2
      have dy1 := Ext.cell (W := wr) (b := g2) (o := k * 4 + 1) (u := .int .i64 (H1 k)) d1 hg2
      have dy2 := Ext.cell (W := wr) (b := g2) (o := k * 4 + 2) (u := .string (H2 k)) d2 hg2
      have dy3 := Ext.cell (W := wr) (b := g2) (o := k * 4 + 3) (u := .slice (some ⟨G2 k, 0, none⟩) (N2 k) (N2 k)) d3 hg2
      refine wp_region_ext (by kernel_rfl) (by kernel_rfl) ?_
      repeat (go_big_quiet_step ((go_at_call 106; exact ext_call (calls_b (l27Same_any _ _ (Y1 k) (V1 k) _ _ (Y2 k) (V2 k) _ hn1 hn2 (row_below HQ1.out (Ext.h _) HQ1.out.lt) (row_below HQ2.out (Ext.h _) HQ2.out.lt)) (by assumption)))))
      refine wpQuiet_nil ?_
      intro W1 hx
      obtain ⟨x, hx⟩ := hx
      have hW1 := x.h
      rw [← hx] at hW1
      have hB := hbel.trans (hW1.mono hbel.size)
      clear hx x hW1 cy0 c0 cy1 c1 cy2 c2 cy3 c3 dy0 d0 dy1 d1 dy2 d2 dy3 d3
      go_wp2
      go_ret
      exact ⟨by rw [HF.out]; rfl, hB⟩
    | true =>
      cases e3 : sameS (N1 k) (Y1 k) (V1 k) (N2 k) (Y2 k) (V2 k) with
      | false =>
        have HF := Lib.hid (sameL_out (n := n) (m := n) (F0 := F0) (F1 := F1) (F2 := F2) (N1 := N1) (Y1 := Y1) (V1 := V1) (H0 := H0) (H1 := H1) (H2 := H2) (N2 := N2) (Y2 := Y2) (V2 := V2) k hlt (show sameV (F0 k) (F1 k) (F2 k) (N1 k) (Y1 k) (V1 k) (H0 k) (H1 k) (H2 k) (N2 k) (Y2 k) (V2 k) = false by unfold sameV; rw [decide_eq_true e0, decide_eq_true e1, e2, e3]; rfl))
        have b0 : (F0 k != H0 k) = false := bneF e0
        have b1 : (F1 k != H1 k) = false := bneF e1
        have b2 := lneF e2
        clear e0 e1
        go_wp2
        have cy0 := Ext.cell (W := wr) (b := g1) (o := k * 4) (u := .int .i64 (F0 k)) c0 hg1
        have cy1 := Ext.cell (W := wr) (b := g1) (o := k * 4 + 1) (u := .int .i64 (F1 k)) c1 hg1
        have cy2 := Ext.cell (W := wr) (b := g1) (o := k * 4 + 2) (u := .string (F2 k)) c2 hg1
        have cy3 := Ext.cell (W := wr) (b := g1) (o := k * 4 + 3) (u := .slice (some ⟨G1 k, 0, none⟩) (N1 k) (N1 k)) c3 hg1
        have dy0 := Ext.cell (W := wr) (b := g2) (o := k * 4) (u := .int .i64 (H0 k)) d0 hg2
        have dy1 := Ext.cell (W := wr) (b := g2) (o := k * 4 + 1) (u := .int .i64 (H1 k)) d1 hg2
        have dy2 := Ext.cell (W := wr) (b := g2) (o := k * 4 + 2) (u := .string (H2 k)) d2 hg2
        have dy3 := Ext.cell (W := wr) (b := g2) (o := k * 4 + 3) (u := .slice (some ⟨G2 k, 0, none⟩) (N2 k) (N2 k)) d3 hg2
        refine wp_region_ext (by kernel_rfl) (by kernel_rfl) ?_
        repeat (go_big_quiet_step ((go_at_call 106; exact ext_call (calls_b (l27Same_any _ _ (Y1 k) (V1 k) _ _ (Y2 k) (V2 k) _ hn1 hn2 (row_below HQ1.out (Ext.h _) HQ1.out.lt) (row_below HQ2.out (Ext.h _) HQ2.out.lt)) (by assumption)))))
        refine wpQuiet_nil ?_
        intro W1 hx
        obtain ⟨x, hx⟩ := hx
        have hW1 := x.h
        rw [← hx] at hW1
        have hB := hbel.trans (hW1.mono hbel.size)
        clear hx x hW1 cy0 c0 cy1 c1 cy2 c2 cy3 c3 dy0 d0 dy1 d1 dy2 d2 dy3 d3
        go_wp2
        go_ret
        exact ⟨by rw [HF.out]; rfl, hB⟩
      | true =>
        have HK := Lib.hid (show oneL F0 F1 F2 N1 Y1 V1 H0 H1 H2 N2 Y2 V2 k = true by unfold oneL sameV; rw [decide_eq_true e0, decide_eq_true e1, e2, e3]; rfl)
        have b0 : (F0 k != H0 k) = false := bneF e0
        have b1 : (F1 k != H1 k) = false := bneF e1
        have b2 := lneF e2
        clear e0 e1
        go_wp2
        have cy0 := Ext.cell (W := wr) (b := g1) (o := k * 4) (u := .int .i64 (F0 k)) c0 hg1
        have cy1 := Ext.cell (W := wr) (b := g1) (o := k * 4 + 1) (u := .int .i64 (F1 k)) c1 hg1
        have cy2 := Ext.cell (W := wr) (b := g1) (o := k * 4 + 2) (u := .string (F2 k)) c2 hg1
        have cy3 := Ext.cell (W := wr) (b := g1) (o := k * 4 + 3) (u := .slice (some ⟨G1 k, 0, none⟩) (N1 k) (N1 k)) c3 hg1
        have dy0 := Ext.cell (W := wr) (b := g2) (o := k * 4) (u := .int .i64 (H0 k)) d0 hg2
        have dy1 := Ext.cell (W := wr) (b := g2) (o := k * 4 + 1) (u := .int .i64 (H1 k)) d1 hg2
        have dy2 := Ext.cell (W := wr) (b := g2) (o := k * 4 + 2) (u := .string (H2 k)) d2 hg2
        have dy3 := Ext.cell (W := wr) (b := g2) (o := k * 4 + 3) (u := .slice (some ⟨G2 k, 0, none⟩) (N2 k) (N2 k)) d3 hg2
        refine wp_region_ext (by kernel_rfl) (by kernel_rfl) ?_
        repeat (go_big_quiet_step ((go_at_call 106; exact ext_call (calls_b (l27Same_any _ _ (Y1 k) (V1 k) _ _ (Y2 k) (V2 k) _ hn1 hn2 (row_below HQ1.out (Ext.h _) HQ1.out.lt) (row_below HQ2.out (Ext.h _) HQ2.out.lt)) (by assumption)))))
        refine wpQuiet_nil ?_
        intro W1 hx
        obtain ⟨x, hx⟩ := hx
        have hW1 := x.h
        rw [← hx] at hW1
        have hB := hbel.trans (hW1.mono hbel.size)
        clear hx x hW1 cy0 c0 cy1 c1 cy2 c2 cy3 c3 dy0 d0 dy1 d1 dy2 d2 dy3 d3
        go_wp2
        go_roundw
        case rel => exact ⟨k + 1, by omega, by go_num, by rw [allB_succ, HA.out, HK.out]; rfl, hB⟩
        case measure => simp [intOf]; omega

set_option maxHeartbeats 400000 in
theorem implSame_any (g1 g2 n m : Nat) (F0 F1 : Nat → Int) (F2 : Nat → ByteArray) (N1 : Nat → Nat) (Y1 : Nat → Nat → ByteArray) (V1 : Nat → Nat → Int) (H0 H1 : Nat → Int) (H2 : Nat → ByteArray) (N2 : Nat → Nat) (Y2 : Nat → Nat → ByteArray) (V2 : Nat → Nat → Int) (G1 G2 : Nat → Nat) (w : World) (hn : n ≤ 1048576) (hm : m ≤ 1048576) (hN1 : ∀ i, i < n → N1 i ≤ 1048576) (hN2 : ∀ i, i < m → N2 i ≤ 1048576) (h1 : DpVersion w g1 n F0 F1 F2 G1 N1 Y1 V1) (h2 : DpVersion w g2 m H0 H1 H2 G2 N2 Y2 V2) :
    Calls Try.prog 47 #[.slice (some ⟨g1, 0, none⟩) n n, .slice (some ⟨g2, 0, none⟩) m m] w fun e w' => e = .returned (.bool (sameL n m F0 F1 F2 N1 Y1 V1 H0 H1 H2 N2 Y2 V2)) ∧ Below w.heap.size w w' := by
  have DA := Lib.hid h1
  have DB := Lib.hid h2
  have HN1 := Lib.hid hN1
  have HN2 := Lib.hid hN2
  clear h1 h2 hN1 hN2
  go_enter Try.func47, Try.ntmps47
  go_wp2_with fail
  refine (EqualFunc_any g1 g2 n m F0 F1 F2 N1 Y1 V1 H0 H1 H2 N2 Y2 V2 G1 G2 _ hn hm HN1.out HN2.out DA.out DB.out).mono ?_
  rintro e w1 ⟨rfl, hb⟩
  go_wp2
  go_ret
  exact ⟨rfl, hb⟩
end Go.Proofs.Ytllmillhdmknpaa
