/- The contracts of SpentBy and LastVisit. -/
import Derived.Test.YtllmillhdmknpaaDelG
import Derived.Test.YtllmillhdmknpaaVisitV
namespace Go.Proofs.Ytllmillhdmknpaa
open Go.RowKit
attribute [local go_sem ↓] Go.wp_at_zero Go.wp_at_succ
set_option linter.unusedVariables false

set_option maxHeartbeats 2000000 in
theorem visitsOf_any (g n : Nat) (F0 : Nat → Int) (F1 : Nat → ByteArray) (F2 : Nat → Int) (F3 : Nat → Int) (who : ByteArray) (w : World) (t1 : TypeId) (hn : n ≤ 1048576) (h1 : w.rowIs g t1 (n * 4) (flat 4 (rowVisit F0 F1 F2 F3)))   :
    Calls Try.prog 125 #[.slice (some ⟨g, 0, none⟩) n n, .string who] w fun e w' => ∃ g1, e = .returned (.slice (some ⟨g1, 0, none⟩) (countP (kept F1 who) n) n) ∧ w.heap.size ≤ g1 ∧ g1 < w'.heap.size ∧ (∀ j, j < n → kept F1 who j = true → ∀ q, q < 4 → w'.cell? ⟨g1, countP (kept F1 who) j * 4 + q, none⟩ = some (rowVisit F0 F1 F2 F3 j q)) ∧ Below w.heap.size w w' := by
  have hl1 := h1.lt
  have H1 := Lib.hid h1
  clear h1
  go_enter Try.func125, Try.ntmps125
  go_wp2_with fail
  refine (clone_any g n F0 F1 F2 F3 _ t1 hn (H1.out.alloc _)).mono ?_
  rintro e w1 ⟨rfl, R1, hb1⟩
  have hs0 : (w.alloc (.cells #[.string who] 9)).heap.size = w.heap.size + 1 := by simp
  rw [hs0] at R1 hb1 ⊢
  have HR1 := Lib.hid R1
  clear R1
  have C1 := (below_new w (.cells #[.string who] 9)).trans (hb1.mono (by omega))
  have b0 : w1.cell? ⟨w.heap.size, 0, none⟩ = some (.string who) := (hb1.cell (p := ⟨w.heap.size, 0, none⟩) (by simp)).trans (by simp)
  have hs1 : w.heap.size + 1 < w1.heap.size := HR1.out.lt
  go_wp2_with fail
  refine (del_any (w.heap.size + 1) n F0 F1 F2 F3 who w.heap.size _ hn HR1.out (by omega) (by omega) b0).mono ?_
  rintro e w2 ⟨rfl, hc, hg⟩
  have hB := C1.grown hg (by omega) (fun k hk => by simp at hk; omega)
  have HC := Lib.hid hc
  have hs2 := hg.size
  clear hc hg
  go_wp2
  go_ret
  exact ⟨_, rfl, by omega, by omega, HC.out, hB⟩

set_option maxHeartbeats 2000000 in
theorem spent_any (g n : Nat) (F0 : Nat → Int) (F1 : Nat → ByteArray) (F2 : Nat → Int) (F3 : Nat → Int) (who : ByteArray) (w : World) (t1 : TypeId) (hn : n ≤ 1048576) (h1 : w.rowIs g t1 (n * 4) (flat 4 (rowVisit F0 F1 F2 F3)))   :
    Calls Try.prog 117 #[.slice (some ⟨g, 0, none⟩) n n, .string who] w fun e w' => e = .returned (.int .i64 (foldC (kept F1 who) F3 n)) ∧ Below w.heap.size w w' := by
  have H1 := Lib.hid h1
  clear h1
  go_enter Try.func117, Try.ntmps117
  go_wp2_with fail
  refine (visitsOf_any g n F0 F1 F2 F3 who _ t1 hn H1.out).mono ?_
  rintro e w1 ⟨g1, rfl, hg1, hg2, hcell, hb1⟩
  have HC := Lib.hid hcell
  clear hcell
  obtain ⟨c, hcc⟩ : ∃ c, countP (kept F1 who) n = c := ⟨_, rfl⟩
  have hcn : c ≤ n := hcc ▸ count_le _ _
  rw [hcc]
  have HCC := Lib.hid hcc
  clear hcc
  go_wp2
  go_loopw [5, 12] (fun v i wr => ∃ (r j : Nat), r ≤ c ∧ j ≤ n ∧ Hid (countP (kept F1 who) j = r) ∧ i = .int .i64 r ∧ v = .int .i64 (foldC (kept F1 who) F3 j) ∧ Below w1.heap.size w1 wr) (fun _ i _ => c - (intOf i).toNat)
  case atStart => exact ⟨0, 0, Nat.zero_le _, Nat.zero_le _, rfl, rfl, rfl, Below.refl _ _⟩
  case round =>
    obtain ⟨r, j, hr, hj, hcj, rfl, rfl, hbel⟩ := hrel
    have HJ : Hid (countP (kept F1 who) j = r) := hcj
    clear hcj
    by_cases hlt : r < c
    · have hlti : (r : Int) < (c : Int) := by omega
      have hri : (0 : Int) ≤ (r : Int) := by omega
      obtain ⟨i, hi1, hi2, hi3, hi4, hi5⟩ := count_next (kept F1 who) F3 hj HJ.out (by rw [HCC.out]; exact hlt)
      have c0 : wr.cell? ⟨g1, r * 4, none⟩ = some (.int .i64 (F0 i)) := by have := (bcell hbel _ _ hg2).trans (HC.out i hi2 hi3 0 (by omega)); rw [hi4] at this; exact this
      have c1 : wr.cell? ⟨g1, r * 4 + 1, none⟩ = some (.string (F1 i)) := by have := (bcell hbel _ _ hg2).trans (HC.out i hi2 hi3 1 (by omega)); rw [hi4] at this; exact this
      have c2 : wr.cell? ⟨g1, r * 4 + 2, none⟩ = some (.int .i64 (F2 i)) := by have := (bcell hbel _ _ hg2).trans (HC.out i hi2 hi3 2 (by omega)); rw [hi4] at this; exact this
      have c3 : wr.cell? ⟨g1, r * 4 + 3, none⟩ = some (.int .i64 (F3 i)) := by have := (bcell hbel _ _ hg2).trans (HC.out i hi2 hi3 3 (by omega)); rw [hi4] at this; exact this
      have HS := Lib.hid (foldC_yes (f := F3) hi3)
      have HX := Lib.hid (show countP (kept F1 who) (i + 1) = r + 1 by rw [count_yes hi3, hi4])
      rw [← hi5]
      clear hi5 hi4 hi3
      go_wp2
      go_roundw
      case rel => first | exact ⟨r + 1, i + 1, by omega, by omega, HX.out, by go_num, by rw [HS.out], hbel.alloc hbel.size _⟩ | ((repeat apply Exists.intro); exact ⟨⟨r + 1, i + 1, by omega, by omega, HX.out, by go_num, by rw [HS.out], hbel.alloc hbel.size _⟩, rfl⟩)
      case measure => simp [intOf]; omega
    · obtain rfl : r = c := by omega
      have HF := Lib.hid (fold_stay (kept F1 who) F3 hj (HJ.out.trans HCC.out.symm))
      go_wp2
      go_ret
      exact ⟨by rw [← HF.out]; rfl, hb1.trans (hbel.mono hb1.size)⟩

set_option maxHeartbeats 2000000 in
theorem l22Spent_any (g n : Nat) (F0 : Nat → Int) (F1 : Nat → ByteArray) (F2 : Nat → Int) (F3 : Nat → Int) (who : ByteArray) (w : World) (t1 : TypeId) (hn : n ≤ 1048576) (h1 : w.rowIs g t1 (n * 4) (flat 4 (rowVisit F0 F1 F2 F3)))   :
    Calls Try.prog 114 #[.slice (some ⟨g, 0, none⟩) n n, .string who] w fun e w' => e = .returned (.int .i64 (foldC (kept F1 who) F3 n)) ∧ Below w.heap.size w w' := by
  have hl1 := h1.lt
  have HR1 := Lib.hid (RdVisit.of_row h1)
  have H1 := Lib.hid h1
  clear h1 
  go_enter Try.func114, Try.ntmps114
  go_wp2
  go_loopw [5, 6] (fun v i wr => ∃ (k : Nat), k ≤ n ∧ i = .int .i64 k ∧ v = .int .i64 (foldC (kept F1 who) F3 k) ∧ Below w.heap.size w wr) (fun _ i _ => n - (intOf i).toNat)
  case atStart => exact ⟨0, Nat.zero_le _, rfl, rfl, Below.refl _ _⟩
  case round =>
    obtain ⟨k, hk, rfl, rfl, hbel⟩ := hrel
    by_cases hlt : k < n
    · have hlti : (k : Int) < (n : Int) := by omega
      have hki : (0 : Int) ≤ (k : Int) := by omega
      obtain ⟨c0, c1, c2, c3⟩ := HR1.out k hlt
      have hbc := bcell hbel
      rw [← hbc _ _ hl1] at c0 c1 c2 c3
      simp only [Nat.zero_add] at c0 c1 c2 c3
      clear hbc
      cases hp : kept F1 who k with
      | true =>
        have hp2 : ((F1 k).toList == who.toList) = true := hp
        have HF := Lib.hid (foldC_yes (f := F3) hp)
        clear hp
        go_wp2
        go_roundw
        case rel => first | exact ⟨k + 1, by omega, by go_num, by rw [HF.out], hbel⟩ | ((repeat apply Exists.intro); exact ⟨⟨k + 1, by omega, by go_num, by rw [HF.out], hbel⟩, rfl⟩)
        case measure => simp [intOf]; omega
      | false =>
        have hp2 : ((F1 k).toList == who.toList) = false := hp
        have HF := Lib.hid (foldC_no (f := F3) hp)
        clear hp
        go_wp2
        go_roundw
        case rel => first | exact ⟨k + 1, by omega, by go_num, by rw [HF.out], hbel⟩ | ((repeat apply Exists.intro); exact ⟨⟨k + 1, by omega, by go_num, by rw [HF.out], hbel⟩, rfl⟩)
        case measure => simp [intOf]; omega
    · obtain rfl : k = n := by omega
      go_wp2
      go_ret
      exact ⟨rfl, hbel⟩

/-- What the function hands back. -/
def spentRes (n : Nat) (F0 : Nat → Int) (F1 : Nat → ByteArray) (F2 : Nat → Int) (F3 : Nat → Int) (who : ByteArray) : Int × Int := (if listVisit n F0 F1 F2 F3 = true then ((foldC (kept F1 who) F3 n), 0) else (0, 1))

set_option maxHeartbeats 2000000 in
theorem specSpentBy_any (g n : Nat) (F0 : Nat → Int) (F1 : Nat → ByteArray) (F2 : Nat → Int) (F3 : Nat → Int) (who : ByteArray) (v1 : Int) (v2 : Int) (w : World) (t1 : TypeId) (hn : n ≤ 1048576) (h1 : w.rowIs g t1 (n * 4) (flat 4 (rowVisit F0 F1 F2 F3))) (hS1 : ∀ i, i < n → (F1 i).size ≤ maxLen)  (hv : spentRes n F0 F1 F2 F3 who = (v1, v2)) :
    Calls Try.prog 50 #[.slice (some ⟨g, 0, none⟩) n n, .string who] w fun e w' => e = .returned (.tuple #[.int .i64 v1, .int .i64 v2]) ∧ Below w.heap.size w w' := by
  have hl1 := h1.lt
  have HR1 := Lib.hid (RdVisit.of_row h1)
  have H1 := Lib.hid h1
  have HS1 := Lib.hid hS1
  clear h1 hS1
  by_cases e0 : listVisit n F0 F1 F2 F3 = true
  case neg =>
    obtain ⟨rfl, rfl⟩ : v1 = 0 ∧ v2 = 1 := by unfold spentRes at hv; rw [if_neg e0] at hv; simpa [eq_comm] using hv
    have e0n : (listVisit n F0 F1 F2 F3) = false := by simpa using e0
    clear hv e0
    go_enter Try.func50, Try.ntmps50
    go_wp2_with fail
    refine (OkVisit_any _ _ F0 F1 F2 F3 _ _ hn H1.out HS1.out).mono ?_
    rintro e w1 ⟨rfl, hb1⟩
    go_wp2_with (first | (go_at_call 73; refine (l00In_any _ _ _ _).mono ?_; rintro e w' ⟨rfl, rfl⟩) | go_in)
    go_ret2
    exact ⟨rfl, hb1⟩
  replace hv : ((foldC (kept F1 who) F3 n), 0) = (v1, v2) := by unfold spentRes at hv; rw [if_pos e0] at hv; exact hv
  have HV := Lib.hid hv
  clear hv
  go_enter Try.func50, Try.ntmps50
  go_wp2_with fail
  refine (OkVisit_any _ _ F0 F1 F2 F3 _ _ hn H1.out HS1.out).mono ?_
  rintro e w1 ⟨rfl, hb1⟩
  have H2 := Lib.hid (row_below H1.out hb1 H1.out.lt)
  go_wp2_with fail
  refine (l22Spent_any g n F0 F1 F2 F3 who _ t1 hn H2.out).mono ?_
  rintro e w2 ⟨rfl, hb2⟩
  have hv := HV.out
  simp only [Prod.mk.injEq] at hv
  go_wp2
  go_ret2
  exact ⟨by rw [← hv.1, ← hv.2]; rfl, hb1.trans (hb2.mono hb1.size)⟩

set_option maxHeartbeats 2000000 in
theorem implSpentBy_any (g n : Nat) (F0 : Nat → Int) (F1 : Nat → ByteArray) (F2 : Nat → Int) (F3 : Nat → Int) (who : ByteArray) (v1 : Int) (v2 : Int) (w : World) (t1 : TypeId) (hn : n ≤ 1048576) (h1 : w.rowIs g t1 (n * 4) (flat 4 (rowVisit F0 F1 F2 F3))) (hS1 : ∀ i, i < n → (F1 i).size ≤ maxLen)  (hv : spentRes n F0 F1 F2 F3 who = (v1, v2)) :
    Calls Try.prog 52 #[.slice (some ⟨g, 0, none⟩) n n, .string who] w fun e w' => e = .returned (.tuple #[.int .i64 v1, .int .i64 v2]) ∧ Below w.heap.size w w' := by
  have hl1 := h1.lt
  have HR1 := Lib.hid (RdVisit.of_row h1)
  have H1 := Lib.hid h1
  have HS1 := Lib.hid hS1
  clear h1 hS1
  by_cases e0 : listVisit n F0 F1 F2 F3 = true
  case neg =>
    obtain ⟨rfl, rfl⟩ : v1 = 0 ∧ v2 = 1 := by unfold spentRes at hv; rw [if_neg e0] at hv; simpa [eq_comm] using hv
    have e0n : (listVisit n F0 F1 F2 F3) = false := by simpa using e0
    clear hv e0
    go_enter Try.func52, Try.ntmps52
    go_wp2_with fail
    refine (ValidVisit_any _ _ F0 F1 F2 F3 _ _ hn H1.out HS1.out).mono ?_
    rintro e w1 ⟨rfl, hb1⟩
    go_wp2_with (first | (go_at_call 77; refine (within_any _ _ _ _).mono ?_; rintro e w' ⟨rfl, rfl⟩) | go_in)
    go_ret2
    exact ⟨rfl, hb1⟩
  replace hv : ((foldC (kept F1 who) F3 n), 0) = (v1, v2) := by unfold spentRes at hv; rw [if_pos e0] at hv; exact hv
  have HV := Lib.hid hv
  clear hv
  go_enter Try.func52, Try.ntmps52
  go_wp2_with fail
  refine (ValidVisit_any _ _ F0 F1 F2 F3 _ _ hn H1.out HS1.out).mono ?_
  rintro e w1 ⟨rfl, hb1⟩
  have H2 := Lib.hid (row_below H1.out hb1 H1.out.lt)
  go_wp2_with fail
  refine (spent_any g n F0 F1 F2 F3 who _ t1 hn H2.out).mono ?_
  rintro e w2 ⟨rfl, hb2⟩
  have hv := HV.out
  simp only [Prod.mk.injEq] at hv
  go_wp2
  go_ret2
  exact ⟨by rw [← hv.1, ← hv.2]; rfl, hb1.trans (hb2.mono hb1.size)⟩

/-- The last f among the kept ones of the first k, or -1. -/
def lastV (p : Nat → Bool) (f : Nat → Int) : Nat → Int
  | 0 => -1
  | k + 1 => if p k = true then f k else lastV p f k

theorem lastV_yes {p : Nat → Bool} {f : Nat → Int} {k : Nat} (h : p k = true) : lastV p f (k + 1) = f k := by
  show (if _ then _ else _) = _
  rw [if_pos h]

theorem lastV_no {p : Nat → Bool} {f : Nat → Int} {k : Nat} (h : p k = false) : lastV p f (k + 1) = lastV p f k := by
  show (if _ then _ else _) = _
  rw [if_neg (by rw [h]; exact Bool.false_ne_true)]

theorem lastV_none (p : Nat → Bool) (f : Nat → Int) : ∀ n, countP p n = 0 → lastV p f n = -1
  | 0, _ => rfl
  | n + 1, h => by
    cases hp : p n with
    | true => rw [count_yes hp] at h; omega
    | false => rw [lastV_no hp]; exact lastV_none p f n (by rw [count_no hp] at h; exact h)

theorem lastV_some (p : Nat → Bool) (f : Nat → Int) : ∀ n, 0 < countP p n → ∃ i, i < n ∧ p i = true ∧ countP p i = countP p n - 1 ∧ lastV p f n = f i
  | 0, h => absurd h (by simp [countP])
  | n + 1, h => by
    cases hp : p n with
    | true => exact ⟨n, by omega, hp, by rw [count_yes hp]; omega, lastV_yes hp⟩
    | false =>
      obtain ⟨i, h1, h2, h3, h4⟩ := lastV_some p f n (by rw [count_no hp] at h; exact h)
      exact ⟨i, by omega, h2, by rw [count_no hp]; exact h3, by rw [lastV_no hp]; exact h4⟩

set_option maxHeartbeats 2000000 in
theorem l22Last_any (g n : Nat) (F0 : Nat → Int) (F1 : Nat → ByteArray) (F2 : Nat → Int) (F3 : Nat → Int) (who : ByteArray) (w : World) (t1 : TypeId) (hn : n ≤ 1048576) (h1 : w.rowIs g t1 (n * 4) (flat 4 (rowVisit F0 F1 F2 F3)))   :
    Calls Try.prog 124 #[.slice (some ⟨g, 0, none⟩) n n, .string who] w fun e w' => e = .returned (.int .i64 (lastV (kept F1 who) F0 n)) ∧ Below w.heap.size w w' := by
  have hl1 := h1.lt
  have HR1 := Lib.hid (RdVisit.of_row h1)
  have H1 := Lib.hid h1
  clear h1 
  go_enter Try.func124, Try.ntmps124
  go_wp2
  go_loopw [5, 6] (fun v i wr => ∃ (k : Nat), k ≤ n ∧ i = .int .i64 k ∧ v = .int .i64 (lastV (kept F1 who) F0 k) ∧ Below w.heap.size w wr) (fun _ i _ => n - (intOf i).toNat)
  case atStart => exact ⟨0, Nat.zero_le _, rfl, rfl, Below.refl _ _⟩
  case round =>
    obtain ⟨k, hk, rfl, rfl, hbel⟩ := hrel
    by_cases hlt : k < n
    · have hlti : (k : Int) < (n : Int) := by omega
      have hki : (0 : Int) ≤ (k : Int) := by omega
      obtain ⟨c0, c1, c2, c3⟩ := HR1.out k hlt
      have hbc := bcell hbel
      rw [← hbc _ _ hl1] at c0 c1 c2 c3
      simp only [Nat.zero_add] at c0 c1 c2 c3
      clear hbc
      cases hp : kept F1 who k with
      | true =>
        have hp2 : ((F1 k).toList == who.toList) = true := hp
        have HF := Lib.hid (lastV_yes (f := F0) hp)
        clear hp
        go_wp2
        go_roundw
        case rel => first | exact ⟨k + 1, by omega, by go_num, by rw [HF.out], hbel⟩ | ((repeat apply Exists.intro); exact ⟨⟨k + 1, by omega, by go_num, by rw [HF.out], hbel⟩, rfl⟩)
        case measure => simp [intOf]; omega
      | false =>
        have hp2 : ((F1 k).toList == who.toList) = false := hp
        have HF := Lib.hid (lastV_no (f := F0) hp)
        clear hp
        go_wp2
        go_roundw
        case rel => first | exact ⟨k + 1, by omega, by go_num, by rw [HF.out], hbel⟩ | ((repeat apply Exists.intro); exact ⟨⟨k + 1, by omega, by go_num, by rw [HF.out], hbel⟩, rfl⟩)
        case measure => simp [intOf]; omega
    · obtain rfl : k = n := by omega
      go_wp2
      go_ret
      exact ⟨rfl, hbel⟩

theorem day_bd {n : Nat} {F0 : Nat → Int} {F1 : Nat → ByteArray} {F2 : Nat → Int} {F3 : Nat → Int} (h : listVisit n F0 F1 F2 F3 = true) (k : Nat) (hk : k < n) : 0 ≤ F0 k := by
  have h1 := listVisit_at h k hk
  unfold vVisit at h1
  simp only [Bool.and_eq_true] at h1
  exact (inB_true h1.1).1

/-- What the function hands back. -/
def lvRes (n : Nat) (F0 : Nat → Int) (F1 : Nat → ByteArray) (F2 : Nat → Int) (F3 : Nat → Int) (who : ByteArray) : Int × Int := (if listVisit n F0 F1 F2 F3 = true then (if (!decide (countP (kept F1 who) n = 0)) = true then ((lastV (kept F1 who) F0 n), 0) else (0, 3)) else (0, 1))

set_option maxHeartbeats 2000000 in
theorem specLastVisit_any (g n : Nat) (F0 : Nat → Int) (F1 : Nat → ByteArray) (F2 : Nat → Int) (F3 : Nat → Int) (who : ByteArray) (v1 : Int) (v2 : Int) (w : World) (t1 : TypeId) (hn : n ≤ 1048576) (h1 : w.rowIs g t1 (n * 4) (flat 4 (rowVisit F0 F1 F2 F3))) (hS1 : ∀ i, i < n → (F1 i).size ≤ maxLen)  (hv : lvRes n F0 F1 F2 F3 who = (v1, v2)) :
    Calls Try.prog 59 #[.slice (some ⟨g, 0, none⟩) n n, .string who] w fun e w' => e = .returned (.tuple #[.int .i64 v1, .int .i64 v2]) ∧ Below w.heap.size w w' := by
  have hl1 := h1.lt
  have HR1 := Lib.hid (RdVisit.of_row h1)
  have H1 := Lib.hid h1
  have HS1 := Lib.hid hS1
  clear h1 hS1
  by_cases e0 : listVisit n F0 F1 F2 F3 = true
  case neg =>
    obtain ⟨rfl, rfl⟩ : v1 = 0 ∧ v2 = 1 := by unfold lvRes at hv; rw [if_neg e0] at hv; simpa [eq_comm] using hv
    have e0n : (listVisit n F0 F1 F2 F3) = false := by simpa using e0
    clear hv e0
    go_enter Try.func59, Try.ntmps59
    go_wp2_with fail
    refine (OkVisit_any _ _ F0 F1 F2 F3 _ _ hn H1.out HS1.out).mono ?_
    rintro e w1 ⟨rfl, hb1⟩
    go_wp2_with (first | (go_at_call 73; refine (l00In_any _ _ _ _).mono ?_; rintro e w' ⟨rfl, rfl⟩) | go_in)
    go_ret2
    exact ⟨rfl, hb1⟩
  by_cases e1 : (!decide (countP (kept F1 who) n = 0)) = true
  case neg =>
    obtain ⟨rfl, rfl⟩ : v1 = 0 ∧ v2 = 3 := by unfold lvRes at hv; rw [if_pos e0, if_neg e1] at hv; simpa [eq_comm] using hv
    have e1n : ((!decide (countP (kept F1 who) n = 0))) = false := by simpa using e1
    have q0 : countP (kept F1 who) n = 0 := by simpa using e1n
    have Q0 := Lib.hid q0
    have QL := Lib.hid (lastV_none (kept F1 who) F0 n q0)
    clear e1n q0
    clear hv e1
    go_enter Try.func59, Try.ntmps59
    go_wp2_with fail
    refine (OkVisit_any _ _ F0 F1 F2 F3 _ _ hn H1.out HS1.out).mono ?_
    rintro e w1 ⟨rfl, hb1⟩
    have H2 := Lib.hid (row_below H1.out hb1 H1.out.lt)
    go_wp2_with fail
    refine (l22Last_any g n F0 F1 F2 F3 who _ t1 hn H2.out).mono ?_
    rintro e w2 ⟨rfl, hb2⟩
    rw [QL.out]
    go_wp2
    go_ret2
    exact ⟨rfl, hb1.trans (hb2.mono hb1.size)⟩
  replace hv : ((lastV (kept F1 who) F0 n), 0) = (v1, v2) := by unfold lvRes at hv; rw [if_pos e0, if_pos e1] at hv; exact hv
  have q00 : ¬ countP (kept F1 who) n = 0 := by simpa using e1
  have q0 : 0 < countP (kept F1 who) n := by omega
  clear q00
  clear e1
  obtain ⟨i, i1, i2, i3, i4⟩ := lastV_some (kept F1 who) F0 n q0
  have i5 := day_bd e0 i i1
  have HV := Lib.hid hv
  clear hv
  go_enter Try.func59, Try.ntmps59
  go_wp2_with fail
  refine (OkVisit_any _ _ F0 F1 F2 F3 _ _ hn H1.out HS1.out).mono ?_
  rintro e w1 ⟨rfl, hb1⟩
  have H2 := Lib.hid (row_below H1.out hb1 H1.out.lt)
  have HL := Lib.hid i4
  go_wp2_with fail
  refine (l22Last_any g n F0 F1 F2 F3 who _ t1 hn H2.out).mono ?_
  rintro e w2 ⟨rfl, hb2⟩
  rw [HL.out]
  have hv := HV.out
  simp only [Prod.mk.injEq] at hv
  have i6 : decide (F0 i < 0) = false := by simp; omega
  go_wp2
  go_ret2
  exact ⟨by rw [← hv.1, ← hv.2, HL.out]; rfl, hb1.trans (hb2.mono hb1.size)⟩

set_option maxHeartbeats 2000000 in
theorem implLastVisit_any (g n : Nat) (F0 : Nat → Int) (F1 : Nat → ByteArray) (F2 : Nat → Int) (F3 : Nat → Int) (who : ByteArray) (v1 : Int) (v2 : Int) (w : World) (t1 : TypeId) (hn : n ≤ 1048576) (h1 : w.rowIs g t1 (n * 4) (flat 4 (rowVisit F0 F1 F2 F3))) (hS1 : ∀ i, i < n → (F1 i).size ≤ maxLen)  (hv : lvRes n F0 F1 F2 F3 who = (v1, v2)) :
    Calls Try.prog 60 #[.slice (some ⟨g, 0, none⟩) n n, .string who] w fun e w' => e = .returned (.tuple #[.int .i64 v1, .int .i64 v2]) ∧ Below w.heap.size w w' := by
  have hl1 := h1.lt
  have HR1 := Lib.hid (RdVisit.of_row h1)
  have H1 := Lib.hid h1
  have HS1 := Lib.hid hS1
  clear h1 hS1
  by_cases e0 : listVisit n F0 F1 F2 F3 = true
  case neg =>
    obtain ⟨rfl, rfl⟩ : v1 = 0 ∧ v2 = 1 := by unfold lvRes at hv; rw [if_neg e0] at hv; simpa [eq_comm] using hv
    have e0n : (listVisit n F0 F1 F2 F3) = false := by simpa using e0
    clear hv e0
    go_enter Try.func60, Try.ntmps60
    go_wp2_with fail
    refine (ValidVisit_any _ _ F0 F1 F2 F3 _ _ hn H1.out HS1.out).mono ?_
    rintro e w1 ⟨rfl, hb1⟩
    go_wp2_with (first | (go_at_call 77; refine (within_any _ _ _ _).mono ?_; rintro e w' ⟨rfl, rfl⟩) | go_in)
    go_ret2
    exact ⟨rfl, hb1⟩
  by_cases e1 : (!decide (countP (kept F1 who) n = 0)) = true
  case neg =>
    obtain ⟨rfl, rfl⟩ : v1 = 0 ∧ v2 = 3 := by unfold lvRes at hv; rw [if_pos e0, if_neg e1] at hv; simpa [eq_comm] using hv
    have e1n : ((!decide (countP (kept F1 who) n = 0))) = false := by simpa using e1
    have q0 : countP (kept F1 who) n = 0 := by simpa using e1n
    have Q0 := Lib.hid q0
    have QL := Lib.hid (lastV_none (kept F1 who) F0 n q0)
    clear e1n q0
    clear hv e1
    go_enter Try.func60, Try.ntmps60
    go_wp2_with fail
    refine (ValidVisit_any _ _ F0 F1 F2 F3 _ _ hn H1.out HS1.out).mono ?_
    rintro e w1 ⟨rfl, hb1⟩
    have H2 := Lib.hid (row_below H1.out hb1 H1.out.lt)
    go_wp2_with fail
    refine (visitsOf_any g n F0 F1 F2 F3 who _ t1 hn H2.out).mono ?_
    rintro e w2 ⟨g1, rfl, hg1, hg2, hcell, hb2⟩
    clear hcell
    rw [Q0.out]
    go_wp2
    go_ret2
    exact ⟨rfl, hb1.trans (hb2.mono hb1.size)⟩
  replace hv : ((lastV (kept F1 who) F0 n), 0) = (v1, v2) := by unfold lvRes at hv; rw [if_pos e0, if_pos e1] at hv; exact hv
  have q00 : ¬ countP (kept F1 who) n = 0 := by simpa using e1
  have q0 : 0 < countP (kept F1 who) n := by omega
  clear q00
  clear e1
  obtain ⟨i, i1, i2, i3, i4⟩ := lastV_some (kept F1 who) F0 n q0
  have i5 := day_bd e0 i i1
  have HV := Lib.hid hv
  clear hv
  go_enter Try.func60, Try.ntmps60
  go_wp2_with fail
  refine (ValidVisit_any _ _ F0 F1 F2 F3 _ _ hn H1.out HS1.out).mono ?_
  rintro e w1 ⟨rfl, hb1⟩
  have H2 := Lib.hid (row_below H1.out hb1 H1.out.lt)
  obtain ⟨c, hcc⟩ : ∃ c, countP (kept F1 who) n = c := ⟨_, rfl⟩
  have hcn : c ≤ n := hcc ▸ count_le _ _
  have hc0 : 0 < c := hcc ▸ q0
  have HCC := Lib.hid hcc
  have HL := Lib.hid i4
  have HI3 := Lib.hid i3
  clear hcc i3 i4 q0
  go_wp2_with fail
  refine (visitsOf_any g n F0 F1 F2 F3 who _ t1 hn H2.out).mono ?_
  rintro e w2 ⟨g1, rfl, hg1, hg2, hcell, hb2⟩
  have d0 : w2.cell? ⟨g1, (c - 1) * 4, none⟩ = some (.int .i64 (F0 i)) := by have := hcell i i1 i2 0 (by omega); rw [HI3.out, HCC.out] at this; exact this
  rw [HCC.out]
  clear hcell
  obtain ⟨r, rfl⟩ : ∃ r, c = r + 1 := ⟨c - 1, by omega⟩
  simp only [Nat.add_sub_cancel] at d0
  have hr1 : ((r + 1 : Nat) : Int) - 1 = (r : Int) := by omega
  have hr2 : (0 : Int) ≤ (r : Int) := by omega
  have hr3 : (r : Int) < ((r + 1 : Nat) : Int) := by omega
  have hr4 : (((r + 1 : Nat) : Int) == 0) = false := by simp; omega
  have hv := HV.out
  simp only [Prod.mk.injEq] at hv
  go_wp2
  go_ret2
  exact ⟨by rw [← hv.1, ← hv.2, HL.out]; rfl, hb1.trans (hb2.mono hb1.size)⟩
end Go.Proofs.Ytllmillhdmknpaa
