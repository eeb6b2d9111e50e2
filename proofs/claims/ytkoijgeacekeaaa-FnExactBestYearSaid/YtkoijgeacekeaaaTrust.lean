/- The contracts of the functions about the trust in years. -/
import Derived.Test.YtkoijgeacekeaaaPaperV
import Derived.Test.YtkoijgeacekeaaaSums
import Derived.Test.YtkoijgeacekeaaaMore
namespace Go.Proofs.Ytkoijgeacekeaaa
open Go.RowKit
attribute [local go_sem ↓] Go.wp_at_zero Go.wp_at_succ
set_option linter.unusedVariables false

/-- The trust in a year. -/
def tr (n : Nat) (F2 F3 F4 : Nat → Int) (y : Int) : Int := foldC (fun i => inB y (F2 i) (F3 i)) (fun i => F4 i) n

theorem tr_yes {k : Nat} {F2 F3 F4 : Nat → Int} {y : Int} (h : inB y (F2 k) (F3 k) = true) : tr (k + 1) F2 F3 F4 y = wrap64 (tr k F2 F3 F4 y + F4 k) := foldC_yes (c := (fun i => inB y (F2 i) (F3 i))) (f := (fun i => F4 i)) h

theorem tr_no {k : Nat} {F2 F3 F4 : Nat → Int} {y : Int} (h : inB y (F2 k) (F3 k) = false) : tr (k + 1) F2 F3 F4 y = tr k F2 F3 F4 y := foldC_no (c := (fun i => inB y (F2 i) (F3 i))) (f := (fun i => F4 i)) h

set_option maxHeartbeats 2000000 in
theorem l20Trust_any (g n : Nat) (F0 : Nat → ByteArray) (F1 : Nat → ByteArray) (F2 : Nat → Int) (F3 : Nat → Int) (F4 : Nat → Int) (y : Int) (w : World) (t1 : TypeId) (hn : n ≤ 1048576) (h1 : w.rowIs g t1 (n * 5) (flat 5 (rowPaper F0 F1 F2 F3 F4)))   :
    Calls Try.prog 60 #[.slice (some ⟨g, 0, none⟩) n n, .int .i64 y] w fun e w' => e = .returned (.int .i64 (tr n F2 F3 F4 y)) ∧ Below w.heap.size w w' := by
  have hl1 := h1.lt
  have HR1 := Lib.hid (RdPaper.of_row h1)
  have H1 := Lib.hid h1
  clear h1 
  go_enter Try.func60, Try.ntmps60
  go_wp2
  go_loopw [5, 6] (fun v i wr => ∃ (k : Nat), k ≤ n ∧ i = .int .i64 k ∧ v = .int .i64 (tr k F2 F3 F4 y) ∧ Below w.heap.size w wr) (fun _ i _ => n - (intOf i).toNat)
  case atStart => exact ⟨0, Nat.zero_le _, rfl, rfl, Below.refl _ _⟩
  case round =>
    obtain ⟨k, hk, rfl, rfl, hbel⟩ := hrel
    by_cases hlt : k < n
    · have hlti : (k : Int) < (n : Int) := by omega
      obtain ⟨c0, c1, c2, c3, c4⟩ := HR1.out k hlt
      have hbc := bcell hbel
      rw [← hbc _ _ hl1] at c0 c1 c2 c3 c4
      simp only [Nat.zero_add] at c0 c1 c2 c3 c4
      clear hbc
      by_cases hd : F2 k ≤ y ∧ y ≤ F3 k
      · have HF := Lib.hid (tr_yes (F4 := F4) (inB_mk hd.1 hd.2))
        obtain ⟨hd1, hd2⟩ := hd
        go_wp2
        go_roundw
        case rel => first | exact ⟨k + 1, by omega, by go_num, by rw [HF.out], hbel⟩ | ((repeat apply Exists.intro); exact ⟨⟨k + 1, by omega, by go_num, by rw [HF.out], hbel⟩, rfl⟩)
        case measure => simp [intOf]; omega
      · have HF := Lib.hid (tr_no (F4 := F4) (show inB y (F2 k) (F3 k) = false by unfold inB; rw [Bool.and_eq_false_iff, decide_eq_false_iff_not, decide_eq_false_iff_not]; omega))
        by_cases hd1 : F2 k ≤ y
        · have hd2 : decide (y ≤ F3 k) = false := by simp; omega
          clear hd
          go_wp2
          go_roundw
          case rel => first | exact ⟨k + 1, by omega, by go_num, by rw [HF.out], hbel⟩ | ((repeat apply Exists.intro); exact ⟨⟨k + 1, by omega, by go_num, by rw [HF.out], hbel⟩, rfl⟩)
          case measure => simp [intOf]; omega
        · have hd2 : decide (F2 k ≤ y) = false := by simp; omega
          clear hd
          go_wp2
          go_roundw
          case rel => first | exact ⟨k + 1, by omega, by go_num, by rw [HF.out], hbel⟩ | ((repeat apply Exists.intro); exact ⟨⟨k + 1, by omega, by go_num, by rw [HF.out], hbel⟩, rfl⟩)
          case measure => simp [intOf]; omega
    · obtain rfl : k = n := by omega
      go_wp2
      go_ret
      exact ⟨rfl, hbel⟩

set_option maxHeartbeats 2000000 in
theorem yearTrust_any (g n : Nat) (F0 : Nat → ByteArray) (F1 : Nat → ByteArray) (F2 : Nat → Int) (F3 : Nat → Int) (F4 : Nat → Int) (y : Int) (w : World) (t1 : TypeId) (hn : n ≤ 1048576) (h1 : w.rowIs g t1 (n * 5) (flat 5 (rowPaper F0 F1 F2 F3 F4)))   :
    Calls Try.prog 62 #[.slice (some ⟨g, 0, none⟩) n n, .int .i64 y] w fun e w' => e = .returned (.int .i64 (tr n F2 F3 F4 y)) ∧ Below w.heap.size w w' := by
  have hl1 := h1.lt
  have HR1 := Lib.hid (RdPaper.of_row h1)
  have H1 := Lib.hid h1
  clear h1 
  go_enter Try.func62, Try.ntmps62
  go_wp2
  go_loopw [5, 10] (fun v i wr => ∃ (k : Nat), k ≤ n ∧ i = .int .i64 k ∧ v = .int .i64 (tr k F2 F3 F4 y) ∧ Below w.heap.size w wr) (fun _ i _ => n - (intOf i).toNat)
  case atStart => exact ⟨0, Nat.zero_le _, rfl, rfl, Below.refl _ _⟩
  case round =>
    obtain ⟨k, hk, rfl, rfl, hbel⟩ := hrel
    by_cases hlt : k < n
    · have hlti : (k : Int) < (n : Int) := by omega
      obtain ⟨c0, c1, c2, c3, c4⟩ := HR1.out k hlt
      have hbc := bcell hbel
      rw [← hbc _ _ hl1] at c0 c1 c2 c3 c4
      simp only [Nat.zero_add] at c0 c1 c2 c3 c4
      clear hbc
      by_cases hd : inB y (F2 k) (F3 k) = true
      · have HF := Lib.hid (tr_yes (F4 := F4) hd)
        go_wp2_with (first | (go_at_call 61; refine (within_any _ _ _ _).mono ?_; rintro e w' ⟨rfl, rfl⟩))
        go_roundw
        case rel => first | exact ⟨k + 1, by omega, by go_num, by rw [HF.out], hbel.alloc hbel.size _⟩ | ((repeat apply Exists.intro); exact ⟨⟨k + 1, by omega, by go_num, by rw [HF.out], hbel.alloc hbel.size _⟩, rfl⟩)
        case measure => simp [intOf]; omega
      · have hdn : inB y (F2 k) (F3 k) = false := by simpa using hd
        have HF := Lib.hid (tr_no (F4 := F4) hdn)
        clear hd
        go_wp2_with (first | (go_at_call 61; refine (within_any _ _ _ _).mono ?_; rintro e w' ⟨rfl, rfl⟩))
        go_roundw
        case rel => first | exact ⟨k + 1, by omega, by go_num, by rw [HF.out], hbel.alloc hbel.size _⟩ | ((repeat apply Exists.intro); exact ⟨⟨k + 1, by omega, by go_num, by rw [HF.out], hbel.alloc hbel.size _⟩, rfl⟩)
        case measure => simp [intOf]; omega
    · obtain rfl : k = n := by omega
      go_wp2
      go_ret
      exact ⟨rfl, hbel⟩

/-- What the function hands back. -/
def trRes (n : Nat) (F0 : Nat → ByteArray) (F1 : Nat → ByteArray) (F2 : Nat → Int) (F3 : Nat → Int) (F4 : Nat → Int) (y : Int) : Int × Int := (if listPaper n F0 F1 F2 F3 F4 = true then (if inB y 1500 2100 = true then (tr n F2 F3 F4 y, 0) else (0, 2)) else (0, 1))

set_option maxHeartbeats 2000000 in
theorem specYearTrust_any (g n : Nat) (F0 : Nat → ByteArray) (F1 : Nat → ByteArray) (F2 : Nat → Int) (F3 : Nat → Int) (F4 : Nat → Int) (y : Int) (v1 : Int) (v2 : Int) (w : World) (t1 : TypeId) (hn : n ≤ 1048576) (h1 : w.rowIs g t1 (n * 5) (flat 5 (rowPaper F0 F1 F2 F3 F4))) (hS0 : ∀ i, i < n → (F0 i).size ≤ maxLen) (hS1 : ∀ i, i < n → (F1 i).size ≤ maxLen)  (hv : trRes n F0 F1 F2 F3 F4 y = (v1, v2)) :
    Calls Try.prog 22 #[.slice (some ⟨g, 0, none⟩) n n, .int .i64 y] w fun e w' => e = .returned (.tuple #[.int .i64 v1, .int .i64 v2]) ∧ Below w.heap.size w w' := by
  have hl1 := h1.lt
  have HR1 := Lib.hid (RdPaper.of_row h1)
  have H1 := Lib.hid h1
  have HS0 := Lib.hid hS0
  have HS1 := Lib.hid hS1
  clear h1 hS0 hS1
  by_cases e0 : listPaper n F0 F1 F2 F3 F4 = true
  case neg =>
    obtain ⟨rfl, rfl⟩ : v1 = 0 ∧ v2 = 1 := by unfold trRes at hv; rw [if_neg e0] at hv; simpa [eq_comm] using hv
    have e0n : (listPaper n F0 F1 F2 F3 F4) = false := by simpa using e0
    clear hv e0
    go_enter Try.func22, Try.ntmps22
    go_wp2_with fail
    refine (OkPaper_any _ _ F0 F1 F2 F3 F4 _ _ hn H1.out HS0.out HS1.out).mono ?_
    rintro e w1 ⟨rfl, hb1⟩
    go_wp2_with (first | (go_at_call 94; refine (l00In_any _ _ _ _).mono ?_; rintro e w' ⟨rfl, rfl⟩) | go_in)
    go_ret2
    exact ⟨rfl, hb1⟩
  by_cases e1 : inB y 1500 2100 = true
  case neg =>
    obtain ⟨rfl, rfl⟩ : v1 = 0 ∧ v2 = 2 := by unfold trRes at hv; rw [if_pos e0, if_neg e1] at hv; simpa [eq_comm] using hv
    have e1n : (inB y 1500 2100) = false := by simpa using e1
    clear hv e1
    go_enter Try.func22, Try.ntmps22
    go_wp2_with fail
    refine (OkPaper_any _ _ F0 F1 F2 F3 F4 _ _ hn H1.out HS0.out HS1.out).mono ?_
    rintro e w1 ⟨rfl, hb1⟩
    go_wp2_with (first | (go_at_call 94; refine (l00In_any _ _ _ _).mono ?_; rintro e w' ⟨rfl, rfl⟩) | go_in)
    go_ret2
    exact ⟨rfl, hb1⟩
  replace hv : (tr n F2 F3 F4 y, 0) = (v1, v2) := by unfold trRes at hv; rw [if_pos e0, if_pos e1] at hv; exact hv
  have HV := Lib.hid hv
  clear hv
  go_enter Try.func22, Try.ntmps22
  go_wp2_with fail
  refine (OkPaper_any _ _ F0 F1 F2 F3 F4 _ _ hn H1.out HS0.out HS1.out).mono ?_
  rintro e w1 ⟨rfl, hb1⟩
  have H2 := Lib.hid (row_below H1.out hb1 H1.out.lt)
  go_wp2_with (first | (go_at_call 94; refine (l00In_any _ _ _ _).mono ?_; rintro e w' ⟨rfl, rfl⟩) | (go_at_call 60; refine (l20Trust_any _ _ F0 F1 F2 F3 F4 _ _ _ hn H2.out).mono ?_; rintro e w2 ⟨rfl, hb2⟩) | go_in)
  have hv := HV.out
  simp only [Prod.mk.injEq] at hv
  go_ret2
  exact ⟨by rw [← hv.1, ← hv.2]; rfl, hb1.trans (hb2.mono hb1.size)⟩

set_option maxHeartbeats 2000000 in
theorem implYearTrust_any (g n : Nat) (F0 : Nat → ByteArray) (F1 : Nat → ByteArray) (F2 : Nat → Int) (F3 : Nat → Int) (F4 : Nat → Int) (y : Int) (v1 : Int) (v2 : Int) (w : World) (t1 : TypeId) (hn : n ≤ 1048576) (h1 : w.rowIs g t1 (n * 5) (flat 5 (rowPaper F0 F1 F2 F3 F4))) (hS0 : ∀ i, i < n → (F0 i).size ≤ maxLen) (hS1 : ∀ i, i < n → (F1 i).size ≤ maxLen)  (hv : trRes n F0 F1 F2 F3 F4 y = (v1, v2)) :
    Calls Try.prog 23 #[.slice (some ⟨g, 0, none⟩) n n, .int .i64 y] w fun e w' => e = .returned (.tuple #[.int .i64 v1, .int .i64 v2]) ∧ Below w.heap.size w w' := by
  have hl1 := h1.lt
  have HR1 := Lib.hid (RdPaper.of_row h1)
  have H1 := Lib.hid h1
  have HS0 := Lib.hid hS0
  have HS1 := Lib.hid hS1
  clear h1 hS0 hS1
  by_cases e0 : listPaper n F0 F1 F2 F3 F4 = true
  case neg =>
    obtain ⟨rfl, rfl⟩ : v1 = 0 ∧ v2 = 1 := by unfold trRes at hv; rw [if_neg e0] at hv; simpa [eq_comm] using hv
    have e0n : (listPaper n F0 F1 F2 F3 F4) = false := by simpa using e0
    clear hv e0
    go_enter Try.func23, Try.ntmps23
    go_wp2_with fail
    refine (ValidPaper_any _ _ F0 F1 F2 F3 F4 _ _ hn H1.out HS0.out HS1.out).mono ?_
    rintro e w1 ⟨rfl, hb1⟩
    go_wp2_with (first | (go_at_call 61; refine (within_any _ _ _ _).mono ?_; rintro e w' ⟨rfl, rfl⟩) | go_in)
    go_ret2
    exact ⟨rfl, hb1⟩
  by_cases e1 : inB y 1500 2100 = true
  case neg =>
    obtain ⟨rfl, rfl⟩ : v1 = 0 ∧ v2 = 2 := by unfold trRes at hv; rw [if_pos e0, if_neg e1] at hv; simpa [eq_comm] using hv
    have e1n : (inB y 1500 2100) = false := by simpa using e1
    clear hv e1
    go_enter Try.func23, Try.ntmps23
    go_wp2_with fail
    refine (ValidPaper_any _ _ F0 F1 F2 F3 F4 _ _ hn H1.out HS0.out HS1.out).mono ?_
    rintro e w1 ⟨rfl, hb1⟩
    go_wp2_with (first | (go_at_call 61; refine (within_any _ _ _ _).mono ?_; rintro e w' ⟨rfl, rfl⟩) | go_in)
    go_ret2
    exact ⟨rfl, hb1⟩
  replace hv : (tr n F2 F3 F4 y, 0) = (v1, v2) := by unfold trRes at hv; rw [if_pos e0, if_pos e1] at hv; exact hv
  have HV := Lib.hid hv
  clear hv
  go_enter Try.func23, Try.ntmps23
  go_wp2_with fail
  refine (ValidPaper_any _ _ F0 F1 F2 F3 F4 _ _ hn H1.out HS0.out HS1.out).mono ?_
  rintro e w1 ⟨rfl, hb1⟩
  have H2 := Lib.hid (row_below H1.out hb1 H1.out.lt)
  go_wp2_with (first | (go_at_call 61; refine (within_any _ _ _ _).mono ?_; rintro e w' ⟨rfl, rfl⟩) | (go_at_call 62; refine (yearTrust_any _ _ F0 F1 F2 F3 F4 _ _ _ hn H2.out).mono ?_; rintro e w2 ⟨rfl, hb2⟩) | go_in)
  have hv := HV.out
  simp only [Prod.mk.injEq] at hv
  go_ret2
  exact ⟨by rw [← hv.1, ← hv.2]; rfl, hb1.trans (hb2.mono hb1.size)⟩

/-- The best of the years 1500 to 1499 + j. -/
def bestY (f : Int → Int) : Nat → Int
  | 0 => 1500
  | j + 1 => if f (bestY f j) < f (1500 + j) then 1500 + j else bestY f j

theorem bestY_yes {f : Int → Int} {j : Nat} (h : f (bestY f j) < f (1500 + j)) : bestY f (j + 1) = 1500 + j := by
  show (if _ then _ else _) = _
  rw [if_pos h]

theorem bestY_no {f : Int → Int} {j : Nat} (h : ¬ f (bestY f j) < f (1500 + j)) : bestY f (j + 1) = bestY f j := by
  show (if _ then _ else _) = _
  rw [if_neg h]

theorem bestY_one (f : Int → Int) : bestY f 1 = 1500 := bestY_no (by show ¬ f 1500 < f (1500 + (0 : Nat)); simp)

/-- What the function hands back. -/
def byRes (n : Nat) (F0 : Nat → ByteArray) (F1 : Nat → ByteArray) (F2 : Nat → Int) (F3 : Nat → Int) (F4 : Nat → Int)  : Int × Int × Int := (if listPaper n F0 F1 F2 F3 F4 = true then (if (!decide (n = 0)) = true then ((bestY (tr n F2 F3 F4) 601), tr n F2 F3 F4 (bestY (tr n F2 F3 F4) 601), 0) else (0, 0, 3)) else (0, 0, 1))

set_option maxHeartbeats 2000000 in
theorem specBestYear_any (g n : Nat) (F0 : Nat → ByteArray) (F1 : Nat → ByteArray) (F2 : Nat → Int) (F3 : Nat → Int) (F4 : Nat → Int)  (v1 : Int) (v2 : Int) (v3 : Int) (w : World) (t1 : TypeId) (hn : n ≤ 1048576) (h1 : w.rowIs g t1 (n * 5) (flat 5 (rowPaper F0 F1 F2 F3 F4))) (hS0 : ∀ i, i < n → (F0 i).size ≤ maxLen) (hS1 : ∀ i, i < n → (F1 i).size ≤ maxLen)  (hv : byRes n F0 F1 F2 F3 F4  = (v1, v2, v3)) :
    Calls Try.prog 24 #[.slice (some ⟨g, 0, none⟩) n n] w fun e w' => e = .returned (.tuple #[.int .i64 v1, .int .i64 v2, .int .i64 v3]) ∧ Below w.heap.size w w' := by
  have hl1 := h1.lt
  have HR1 := Lib.hid (RdPaper.of_row h1)
  have H1 := Lib.hid h1
  have HS0 := Lib.hid hS0
  have HS1 := Lib.hid hS1
  clear h1 hS0 hS1
  by_cases e0 : listPaper n F0 F1 F2 F3 F4 = true
  case neg =>
    obtain ⟨rfl, rfl, rfl⟩ : v1 = 0 ∧ v2 = 0 ∧ v3 = 1 := by unfold byRes at hv; rw [if_neg e0] at hv; simpa [eq_comm] using hv
    have e0n : (listPaper n F0 F1 F2 F3 F4) = false := by simpa using e0
    clear hv e0
    go_enter Try.func24, Try.ntmps24
    go_wp2_with fail
    refine (OkPaper_any _ _ F0 F1 F2 F3 F4 _ _ hn H1.out HS0.out HS1.out).mono ?_
    rintro e w1 ⟨rfl, hb1⟩
    go_wp2_with (first | (go_at_call 94; refine (l00In_any _ _ _ _).mono ?_; rintro e w' ⟨rfl, rfl⟩) | go_in)
    go_ret3
    exact ⟨rfl, hb1⟩
  by_cases e1 : (!decide (n = 0)) = true
  case neg =>
    obtain ⟨rfl, rfl, rfl⟩ : v1 = 0 ∧ v2 = 0 ∧ v3 = 3 := by unfold byRes at hv; rw [if_pos e0, if_neg e1] at hv; simpa [eq_comm] using hv
    have e1n : ((!decide (n = 0))) = false := by simpa using e1
    have q1 : n = 0 := by simpa using e1n
    have q2 : ((n : Int) == 0) = true := by simp; omega
    clear e1n q1
    clear hv e1
    go_enter Try.func24, Try.ntmps24
    go_wp2_with fail
    refine (OkPaper_any _ _ F0 F1 F2 F3 F4 _ _ hn H1.out HS0.out HS1.out).mono ?_
    rintro e w1 ⟨rfl, hb1⟩
    go_wp2_with (first | (go_at_call 94; refine (l00In_any _ _ _ _).mono ?_; rintro e w' ⟨rfl, rfl⟩) | go_in)
    go_ret3
    exact ⟨rfl, hb1⟩
  replace hv : ((bestY (tr n F2 F3 F4) 601), tr n F2 F3 F4 (bestY (tr n F2 F3 F4) 601), 0) = (v1, v2, v3) := by unfold byRes at hv; rw [if_pos e0, if_pos e1] at hv; exact hv
  have q1 : ¬ n = 0 := by simpa using e1
  have q2 : ((n : Int) == 0) = false := by simp; omega
  have q3 : 0 < n := by omega
  clear e1 q1
  have HV := Lib.hid hv
  clear hv
  go_enter Try.func24, Try.ntmps24
  go_wp2_with fail
  refine (OkPaper_any _ _ F0 F1 F2 F3 F4 _ _ hn H1.out HS0.out HS1.out).mono ?_
  rintro e w1 ⟨rfl, hb1⟩
  have H2 := Lib.hid (row_below H1.out hb1 H1.out.lt)
  go_wp2
  go_loopw [5, 6] (fun v i wr => ∃ (j : Nat) (b : Int), j ≤ 601 ∧ i = .int .i64 (1500 + j) ∧ v = .int .i64 b ∧ 1500 ≤ b ∧ b ≤ 2100 ∧ Hid (b = bestY (tr n F2 F3 F4) j) ∧ Below w.heap.size w wr) (fun _ i _ => 2101 - (intOf i).toNat)
  case atStart => exact ⟨1, 1500, by omega, rfl, rfl, by omega, by omega, (bestY_one _).symm, hb1⟩
  case round =>
    obtain ⟨j, b, hj, rfl, rfl, hb1500, hb2100, hbest, hbel⟩ := hrel
    have HR := Lib.hid (row_below H1.out hbel hl1)
    by_cases hlt : j < 601
    · have hji : (1500 : Int) + j ≤ 2100 := by omega
      by_cases hc : tr n F2 F3 F4 b < tr n F2 F3 F4 (1500 + j)
      · have HB := Lib.hid (show Hid (1500 + (j : Int) = bestY (tr n F2 F3 F4) (j + 1)) by have h := hbest.out; show _ = _; rw [bestY_yes (by rw [← h]; exact hc)])
        clear hbest
        go_wp2_with fail
        refine (l20Trust_any _ _ F0 F1 F2 F3 F4 _ _ _ hn HR.out).mono ?_
        rintro e w2 ⟨rfl, hb2⟩
        have HR3 := Lib.hid (row_below HR.out hb2 HR.out.lt)
        go_wp2_with fail
        refine (l20Trust_any _ _ F0 F1 F2 F3 F4 _ _ _ hn HR3.out).mono ?_
        rintro e w3 ⟨rfl, hb3⟩
        go_wp2
        go_roundw
        case rel => first | exact ⟨j + 1, 1500 + (j : Int), by omega, by go_num, rfl, by omega, by omega, HB.out, (hbel.trans (hb2.mono hbel.size)).trans (hb3.mono (Nat.le_trans hbel.size hb2.size))⟩ | ((repeat apply Exists.intro); exact ⟨⟨j + 1, 1500 + (j : Int), by omega, by go_num, rfl, by omega, by omega, HB.out, (hbel.trans (hb2.mono hbel.size)).trans (hb3.mono (Nat.le_trans hbel.size hb2.size))⟩, rfl⟩)
        case measure => simp [intOf]; omega
      · have HB := Lib.hid (show Hid (b = bestY (tr n F2 F3 F4) (j + 1)) by have h := hbest.out; show _ = _; rw [bestY_no (by rw [← h]; exact hc)]; exact h)
        have hcd : decide (tr n F2 F3 F4 b < tr n F2 F3 F4 (1500 + j)) = false := by simpa using hc
        clear hbest
        go_wp2_with fail
        refine (l20Trust_any _ _ F0 F1 F2 F3 F4 _ _ _ hn HR.out).mono ?_
        rintro e w2 ⟨rfl, hb2⟩
        have HR3 := Lib.hid (row_below HR.out hb2 HR.out.lt)
        go_wp2_with fail
        refine (l20Trust_any _ _ F0 F1 F2 F3 F4 _ _ _ hn HR3.out).mono ?_
        rintro e w3 ⟨rfl, hb3⟩
        go_wp2
        go_roundw
        case rel => first | exact ⟨j + 1, b, by omega, by go_num, rfl, by omega, by omega, HB.out, (hbel.trans (hb2.mono hbel.size)).trans (hb3.mono (Nat.le_trans hbel.size hb2.size))⟩ | ((repeat apply Exists.intro); exact ⟨⟨j + 1, b, by omega, by go_num, rfl, by omega, by omega, HB.out, (hbel.trans (hb2.mono hbel.size)).trans (hb3.mono (Nat.le_trans hbel.size hb2.size))⟩, rfl⟩)
        case measure => simp [intOf]; omega
    · obtain rfl : j = 601 := by omega
      have hv := HV.out
      rw [← hbest.out] at hv
      simp only [Prod.mk.injEq] at hv
      clear hbest
      go_wp2_with fail
      refine (l20Trust_any _ _ F0 F1 F2 F3 F4 _ _ _ hn HR.out).mono ?_
      rintro e w2 ⟨rfl, hb2⟩
      go_wp2
      go_ret3
      exact ⟨by rw [← hv.1, ← hv.2.1, ← hv.2.2]; rfl, hbel.trans (hb2.mono hbel.size)⟩

set_option maxHeartbeats 2000000 in
theorem implBestYear_any (g n : Nat) (F0 : Nat → ByteArray) (F1 : Nat → ByteArray) (F2 : Nat → Int) (F3 : Nat → Int) (F4 : Nat → Int)  (v1 : Int) (v2 : Int) (v3 : Int) (w : World) (t1 : TypeId) (hn : n ≤ 1048576) (h1 : w.rowIs g t1 (n * 5) (flat 5 (rowPaper F0 F1 F2 F3 F4))) (hS0 : ∀ i, i < n → (F0 i).size ≤ maxLen) (hS1 : ∀ i, i < n → (F1 i).size ≤ maxLen)  (hv : byRes n F0 F1 F2 F3 F4  = (v1, v2, v3)) :
    Calls Try.prog 25 #[.slice (some ⟨g, 0, none⟩) n n] w fun e w' => e = .returned (.tuple #[.int .i64 v1, .int .i64 v2, .int .i64 v3]) ∧ Below w.heap.size w w' := by
  have hl1 := h1.lt
  have HR1 := Lib.hid (RdPaper.of_row h1)
  have H1 := Lib.hid h1
  have HS0 := Lib.hid hS0
  have HS1 := Lib.hid hS1
  clear h1 hS0 hS1
  by_cases e0 : listPaper n F0 F1 F2 F3 F4 = true
  case neg =>
    obtain ⟨rfl, rfl, rfl⟩ : v1 = 0 ∧ v2 = 0 ∧ v3 = 1 := by unfold byRes at hv; rw [if_neg e0] at hv; simpa [eq_comm] using hv
    have e0n : (listPaper n F0 F1 F2 F3 F4) = false := by simpa using e0
    clear hv e0
    go_enter Try.func25, Try.ntmps25
    go_wp2_with fail
    refine (ValidPaper_any _ _ F0 F1 F2 F3 F4 _ _ hn H1.out HS0.out HS1.out).mono ?_
    rintro e w1 ⟨rfl, hb1⟩
    go_wp2_with (first | (go_at_call 61; refine (within_any _ _ _ _).mono ?_; rintro e w' ⟨rfl, rfl⟩) | go_in)
    go_ret3
    exact ⟨rfl, hb1⟩
  by_cases e1 : (!decide (n = 0)) = true
  case neg =>
    obtain ⟨rfl, rfl, rfl⟩ : v1 = 0 ∧ v2 = 0 ∧ v3 = 3 := by unfold byRes at hv; rw [if_pos e0, if_neg e1] at hv; simpa [eq_comm] using hv
    have e1n : ((!decide (n = 0))) = false := by simpa using e1
    have q1 : n = 0 := by simpa using e1n
    have q2 : ((n : Int) == 0) = true := by simp; omega
    clear e1n q1
    clear hv e1
    go_enter Try.func25, Try.ntmps25
    go_wp2_with fail
    refine (ValidPaper_any _ _ F0 F1 F2 F3 F4 _ _ hn H1.out HS0.out HS1.out).mono ?_
    rintro e w1 ⟨rfl, hb1⟩
    go_wp2_with (first | (go_at_call 61; refine (within_any _ _ _ _).mono ?_; rintro e w' ⟨rfl, rfl⟩) | go_in)
    go_ret3
    exact ⟨rfl, hb1⟩
  replace hv : ((bestY (tr n F2 F3 F4) 601), tr n F2 F3 F4 (bestY (tr n F2 F3 F4) 601), 0) = (v1, v2, v3) := by unfold byRes at hv; rw [if_pos e0, if_pos e1] at hv; exact hv
  have q1 : ¬ n = 0 := by simpa using e1
  have q2 : ((n : Int) == 0) = false := by simp; omega
  have q3 : 0 < n := by omega
  clear e1 q1
  have HV := Lib.hid hv
  clear hv
  go_enter Try.func25, Try.ntmps25
  go_wp2_with fail
  refine (ValidPaper_any _ _ F0 F1 F2 F3 F4 _ _ hn H1.out HS0.out HS1.out).mono ?_
  rintro e w1 ⟨rfl, hb1⟩
  have H2 := Lib.hid (row_below H1.out hb1 H1.out.lt)
  go_wp2
  go_loopw [5, 6] (fun v i wr => ∃ (j : Nat) (b : Int), j ≤ 601 ∧ i = .int .i64 (1500 + j) ∧ v = .int .i64 b ∧ 1500 ≤ b ∧ b ≤ 2100 ∧ Hid (b = bestY (tr n F2 F3 F4) j) ∧ Below w.heap.size w wr) (fun _ i _ => 2101 - (intOf i).toNat)
  case atStart => exact ⟨0, 1500, by omega, rfl, rfl, by omega, by omega, rfl, hb1⟩
  case round =>
    obtain ⟨j, b, hj, rfl, rfl, hb1500, hb2100, hbest, hbel⟩ := hrel
    have HR := Lib.hid (row_below H1.out hbel hl1)
    by_cases hlt : j < 601
    · have hji : (1500 : Int) + j ≤ 2100 := by omega
      by_cases hc : tr n F2 F3 F4 b < tr n F2 F3 F4 (1500 + j)
      · have HB := Lib.hid (show Hid (1500 + (j : Int) = bestY (tr n F2 F3 F4) (j + 1)) by have h := hbest.out; show _ = _; rw [bestY_yes (by rw [← h]; exact hc)])
        clear hbest
        go_wp2_with fail
        refine (yearTrust_any _ _ F0 F1 F2 F3 F4 _ _ _ hn HR.out).mono ?_
        rintro e w2 ⟨rfl, hb2⟩
        have HR3 := Lib.hid (row_below HR.out hb2 HR.out.lt)
        go_wp2_with fail
        refine (yearTrust_any _ _ F0 F1 F2 F3 F4 _ _ _ hn HR3.out).mono ?_
        rintro e w3 ⟨rfl, hb3⟩
        go_wp2
        go_roundw
        case rel => first | exact ⟨j + 1, 1500 + (j : Int), by omega, by go_num, rfl, by omega, by omega, HB.out, (hbel.trans (hb2.mono hbel.size)).trans (hb3.mono (Nat.le_trans hbel.size hb2.size))⟩ | ((repeat apply Exists.intro); exact ⟨⟨j + 1, 1500 + (j : Int), by omega, by go_num, rfl, by omega, by omega, HB.out, (hbel.trans (hb2.mono hbel.size)).trans (hb3.mono (Nat.le_trans hbel.size hb2.size))⟩, rfl⟩)
        case measure => simp [intOf]; omega
      · have HB := Lib.hid (show Hid (b = bestY (tr n F2 F3 F4) (j + 1)) by have h := hbest.out; show _ = _; rw [bestY_no (by rw [← h]; exact hc)]; exact h)
        have hcd : decide (tr n F2 F3 F4 b < tr n F2 F3 F4 (1500 + j)) = false := by simpa using hc
        clear hbest
        go_wp2_with fail
        refine (yearTrust_any _ _ F0 F1 F2 F3 F4 _ _ _ hn HR.out).mono ?_
        rintro e w2 ⟨rfl, hb2⟩
        have HR3 := Lib.hid (row_below HR.out hb2 HR.out.lt)
        go_wp2_with fail
        refine (yearTrust_any _ _ F0 F1 F2 F3 F4 _ _ _ hn HR3.out).mono ?_
        rintro e w3 ⟨rfl, hb3⟩
        go_wp2
        go_roundw
        case rel => first | exact ⟨j + 1, b, by omega, by go_num, rfl, by omega, by omega, HB.out, (hbel.trans (hb2.mono hbel.size)).trans (hb3.mono (Nat.le_trans hbel.size hb2.size))⟩ | ((repeat apply Exists.intro); exact ⟨⟨j + 1, b, by omega, by go_num, rfl, by omega, by omega, HB.out, (hbel.trans (hb2.mono hbel.size)).trans (hb3.mono (Nat.le_trans hbel.size hb2.size))⟩, rfl⟩)
        case measure => simp [intOf]; omega
    · obtain rfl : j = 601 := by omega
      have hv := HV.out
      rw [← hbest.out] at hv
      simp only [Prod.mk.injEq] at hv
      clear hbest
      go_wp2_with fail
      refine (yearTrust_any _ _ F0 F1 F2 F3 F4 _ _ _ hn HR.out).mono ?_
      rintro e w2 ⟨rfl, hb2⟩
      go_wp2
      go_ret3
      exact ⟨by rw [← hv.1, ← hv.2.1, ← hv.2.2]; rfl, hbel.trans (hb2.mono hbel.size)⟩
end Go.Proofs.Ytkoijgeacekeaaa
