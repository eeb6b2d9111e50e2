/- The contracts of the search for the worst paper. -/
import Derived.Test.YtkoijgeacekeaaaPaperV
import Derived.Test.YtkoijgeacekeaaaSums
import Derived.Test.YtkoijgeacekeaaaMore
namespace Go.Proofs.Ytkoijgeacekeaaa
open Go.RowKit
attribute [local go_sem ↓] Go.wp_at_zero Go.wp_at_succ
set_option linter.unusedVariables false

theorem below3 {w wr : World} (h : Below w.heap.size w wr) (o1 o2 o3 : Obj) : Below w.heap.size w (((wr.alloc o1).alloc o2).alloc o3) :=
  ((h.alloc h.size _).alloc (by simp; exact Nat.le_succ_of_le h.size) _).alloc (by simp; have := h.size; omega) _

/-- Two papers contradict one another. -/
def clashB (x1 y1 : ByteArray) (x2 x3 y2 y3 : Int) : Bool := !(x1.toList == y1.toList) || (decide (x3 < y2) || decide (y3 < x2))

set_option maxHeartbeats 1000000 in
theorem clash_any (x0 : ByteArray) (x1 : ByteArray) (x2 : Int) (x3 : Int) (x4 : Int) (y0 : ByteArray) (y1 : ByteArray) (y2 : Int) (y3 : Int) (y4 : Int) (w : World) (hx : x2 ≤ x3) (hy : y2 ≤ y3) :
    Calls Try.prog 92 #[.agg #[.string x0, .string x1, .int .i64 x2, .int .i64 x3, .int .i64 x4], .agg #[.string y0, .string y1, .int .i64 y2, .int .i64 y3, .int .i64 y4]] w fun e w' => e = .returned (.bool (clashB x1 y1 x2 x3 y2 y3)) ∧ (w.alloc (.cells #[.string x0, .string x1, .int .i64 x2, .int .i64 x3, .int .i64 x4] 67)).alloc (.cells #[.string y0, .string y1, .int .i64 y2, .int .i64 y3, .int .i64 y4] 67) = w' := by
  by_cases e1 : (x1.toList == y1.toList) = true
  · by_cases p1 : x3 < y2
    · have HF := Lib.hid (show clashB x1 y1 x2 x3 y2 y3 = true by unfold clashB; rw [decide_eq_true p1]; simp)
      go_enter Try.func92, Try.ntmps92
      go_wp2
      all_goals (go_ret; exact ⟨by rw [HF.out]; first | rfl | (simp; done) | (simp; omega), rfl⟩)
    · by_cases p2 : y3 < x2
      · have HF := Lib.hid (show clashB x1 y1 x2 x3 y2 y3 = true by unfold clashB; rw [decide_eq_true p2]; simp)
        go_enter Try.func92, Try.ntmps92
        go_wp2
        all_goals (go_ret; exact ⟨by rw [HF.out]; first | rfl | (simp; done) | (simp; omega), rfl⟩)
      · have HF := Lib.hid (show clashB x1 y1 x2 x3 y2 y3 = false by unfold clashB; rw [decide_eq_false p1, decide_eq_false p2, e1]; rfl)
        go_enter Try.func92, Try.ntmps92
        go_wp2
        all_goals (go_ret; exact ⟨by rw [HF.out]; first | rfl | (simp; done) | (simp; omega), rfl⟩)
  · have e1n : (x1.toList == y1.toList) = false := by simpa using e1
    clear e1
    have HF := Lib.hid (show clashB x1 y1 x2 x3 y2 y3 = true by unfold clashB; rw [e1n]; rfl)
    go_enter Try.func92, Try.ntmps92
    go_wp2
    all_goals (go_ret; exact ⟨by rw [HF.out]; first | rfl | (simp; done) | (simp; omega), rfl⟩)

set_option maxHeartbeats 1000000 in
theorem l20Clash_any (b o b2 o2 : Nat) (x0 : ByteArray) (x1 : ByteArray) (x2 : Int) (x3 : Int) (x4 : Int) (y0 : ByteArray) (y1 : ByteArray) (y2 : Int) (y3 : Int) (y4 : Int) (w : World) (h0 : w.cell? ⟨b, o, none⟩ = some (.string x0)) (h1 : w.cell? ⟨b, o + 1, none⟩ = some (.string x1)) (h2 : w.cell? ⟨b, o + 2, none⟩ = some (.int .i64 x2)) (h3 : w.cell? ⟨b, o + 3, none⟩ = some (.int .i64 x3)) (h4 : w.cell? ⟨b, o + 4, none⟩ = some (.int .i64 x4)) (k0 : w.cell? ⟨b2, o2, none⟩ = some (.string y0)) (k1 : w.cell? ⟨b2, o2 + 1, none⟩ = some (.string y1)) (k2 : w.cell? ⟨b2, o2 + 2, none⟩ = some (.int .i64 y2)) (k3 : w.cell? ⟨b2, o2 + 3, none⟩ = some (.int .i64 y3)) (k4 : w.cell? ⟨b2, o2 + 4, none⟩ = some (.int .i64 y4)) :
    Calls Try.prog 91 #[.pointer (some ⟨b, o, none⟩), .pointer (some ⟨b2, o2, none⟩)] w fun e w' => e = .returned (.bool (clashB x1 y1 x2 x3 y2 y3)) ∧ ∃ q, w' = w.drewN q := by
  by_cases e1 : (x1.toList == y1.toList) = true
  · have e1b : x1.toList = y1.toList := by simpa using e1
    clear e1b
    by_cases p1 : x3 < y2
    · have HF := Lib.hid (show clashB x1 y1 x2 x3 y2 y3 = true by unfold clashB; rw [decide_eq_true p1]; simp)
      go_enter Try.func91, Try.ntmps91
      go_wp2
      go_big_quiet (fail)
      go_wp2
      go_ret
      exact ⟨by rw [HF.out]; rfl, _, rfl⟩
    · have p1n : decide (x3 < y2) = false := by simpa using p1
      by_cases p2 : y3 < x2
      · have HF := Lib.hid (show clashB x1 y1 x2 x3 y2 y3 = true by unfold clashB; rw [decide_eq_true p2]; simp)
        go_enter Try.func91, Try.ntmps91
        go_wp2
        go_big_quiet (fail)
        go_wp2
        go_ret
        exact ⟨by rw [HF.out]; rfl, _, rfl⟩
      · have p2n : decide (y3 < x2) = false := by simpa using p2
        have HF := Lib.hid (show clashB x1 y1 x2 x3 y2 y3 = false by unfold clashB; rw [p1n, p2n, e1]; rfl)
        go_enter Try.func91, Try.ntmps91
        go_wp2
        go_big_quiet (fail)
        go_wp2
        go_ret
        exact ⟨by rw [HF.out]; rfl, _, rfl⟩
  · have e1n : (x1.toList == y1.toList) = false := by simpa using e1
    clear e1
    have HF := Lib.hid (show clashB x1 y1 x2 x3 y2 y3 = true by unfold clashB; rw [e1n]; rfl)
    go_enter Try.func91, Try.ntmps91
    go_wp2
    go_big_quiet (fail)
    go_wp2
    go_ret
    exact ⟨by rw [HF.out]; rfl, _, rfl⟩

/-- Do the papers i and k contradict one another? -/
def cl (F1 : Nat → ByteArray) (F2 F3 : Nat → Int) (i k : Nat) : Bool := decide (i ≠ k) && clashB (F1 i) (F1 k) (F2 i) (F3 i) (F2 k) (F3 k)

/-- What contradicts the paper i among the first k. -/
def against (F1 : Nat → ByteArray) (F2 F3 F4 : Nat → Int) (i k : Nat) : Int := foldC (cl F1 F2 F3 i) F4 k

theorem against_yes {F1 : Nat → ByteArray} {F2 F3 F4 : Nat → Int} {i k : Nat} (h : cl F1 F2 F3 i k = true) : against F1 F2 F3 F4 i (k + 1) = wrap64 (against F1 F2 F3 F4 i k + F4 k) := foldC_yes h

theorem against_no {F1 : Nat → ByteArray} {F2 F3 F4 : Nat → Int} {i k : Nat} (h : cl F1 F2 F3 i k = false) : against F1 F2 F3 F4 i (k + 1) = against F1 F2 F3 F4 i k := foldC_no h

/-- The worst paper among the first i, and what contradicts it. -/
def wst (s : Nat → Int) : Nat → Int × Int
  | 0 => (-1, 0)
  | i + 1 => if (wst s i).2 < s i then ((i : Int), s i) else wst s i

theorem wst_yes {s : Nat → Int} {i : Nat} {p : Int × Int} (hp : p = wst s i) (h : p.2 < s i) : ((i : Int), s i) = wst s (i + 1) := by
  show _ = (if _ then _ else _)
  rw [if_pos (by rw [← hp]; exact h)]

theorem wst_no {s : Nat → Int} {i : Nat} {p : Int × Int} (hp : p = wst s i) (h : ¬ p.2 < s i) : p = wst s (i + 1) := by
  show _ = (if _ then _ else _)
  rw [if_neg (by rw [← hp]; exact h)]; exact hp

set_option maxHeartbeats 4000000 in
theorem l20Worst_any (g n : Nat) (F0 : Nat → ByteArray) (F1 : Nat → ByteArray) (F2 : Nat → Int) (F3 : Nat → Int) (F4 : Nat → Int)  (w : World) (t1 : TypeId) (hn : n ≤ 1048576) (h1 : w.rowIs g t1 (n * 5) (flat 5 (rowPaper F0 F1 F2 F3 F4)))  (hval : ∀ i, i < n → F2 i ≤ F3 i) :
    Calls Try.prog 53 #[.slice (some ⟨g, 0, none⟩) n n] w fun e w' => e = .returned (.int .i64 (wst (fun i => against F1 F2 F3 F4 i n) n).1) ∧ Below w.heap.size w w' := by
  have hl1 := h1.lt
  have HR1 := Lib.hid (RdPaper.of_row h1)
  have H1 := Lib.hid h1
  clear h1 
  have HVAL := Lib.hid hval
  clear hval
  go_enter Try.func53, Try.ntmps53
  go_wp2
  go_loopw [3, 4, 5] (fun vb vm j wr => ∃ (i : Nat) (b mm : Int), i ≤ n ∧ j = .int .i64 i ∧ vb = .int .i64 b ∧ vm = .int .i64 mm ∧ Hid ((b, mm) = wst (fun i => against F1 F2 F3 F4 i n) i) ∧ Below w.heap.size w wr) (fun _ _ j _ => n - (intOf j).toNat)
  case atStart => exact ⟨0, -1, 0, Nat.zero_le _, rfl, rfl, rfl, rfl, Below.refl _ _⟩
  case round =>
    obtain ⟨i, b, mm, hi, rfl, rfl, rfl, hwst, hbel⟩ := hrel
    obtain ⟨wo, rfl⟩ : ∃ wo : World, wo = wr := ⟨_, rfl⟩
    by_cases hlt : i < n
    · have hlti : (i : Int) < (n : Int) := by omega
      have hii : (0 : Int) ≤ (i : Int) := by omega
      have hgo : g < wo.heap.size := Nat.lt_of_lt_of_le hl1 hbel.size
      obtain ⟨a0, a1, a2, a3, a4⟩ := HR1.out i hlt
      rw [← bcell hbel _ _ hl1] at a0 a1 a2 a3 a4
      simp only [Nat.zero_add] at a0 a1 a2 a3 a4
      have HW := Lib.hid hwst
      clear hwst
      go_wp2
      have hW0 : Below w.heap.size w wo := hbel
      have hgW : g < wo.heap.size := by exact hgo
      have HA0 := Lib.hid a0
      have HA1 := Lib.hid a1
      have HA2 := Lib.hid a2
      have HA3 := Lib.hid a3
      have HA4 := Lib.hid a4
      clear a0 a1 a2 a3 a4
      go_loopw [6, 7] (fun v q wi => ∃ (k : Nat), k ≤ n ∧ q = .int .i64 k ∧ v = .int .i64 (against F1 F2 F3 F4 i k) ∧ Below wo.heap.size wo wi) (fun _ q _ => n - (intOf q).toNat)
      case atStart => exact ⟨0, Nat.zero_le _, rfl, rfl, Below.refl _ _⟩
      case round =>
        obtain ⟨k, hk, rfl, rfl, hin⟩ := hrel
        by_cases hkn : k < n
        · have hkni : (k : Int) < (n : Int) := by omega
          have hki : (0 : Int) ≤ (k : Int) := by omega
          obtain ⟨c0, c1, c2, c3, c4⟩ := HR1.out k hkn
          have hbi := hW0.trans (hin.mono hW0.size)
          rw [← bcell hbi _ _ hl1] at c0 c1 c2 c3 c4
          simp only [Nat.zero_add] at c0 c1 c2 c3 c4
          have hgi : g < wr.heap.size := Nat.lt_of_lt_of_le hgW hin.size
          have a0 := (bcell hin _ _ hgo).trans HA0.out
          have a1 := (bcell hin _ _ hgo).trans HA1.out
          have a2 := (bcell hin _ _ hgo).trans HA2.out
          have a3 := (bcell hin _ _ hgo).trans HA3.out
          have a4 := (bcell hin _ _ hgo).trans HA4.out
          have hv1 := HVAL.out i hlt
          have hv2 := HVAL.out k hkn
          by_cases hik : i = k
          · have HF := Lib.hid (against_no (F4 := F4) (show cl F1 F2 F3 i k = false by unfold cl; simp [hik]))
            have n1 : ((i : Int) != (k : Int)) = false := by simp [hik]
            have n2 : (i != k) = false := by simp [hik]
            have n3 : ((k : Int) != (i : Int)) = false := by simp [hik]
            have n4 : (k != i) = false := by simp [hik]
            have n5 : (i == k) = true := by simp [hik]
            have n6 : (k == i) = true := by simp [hik]
            clear hik hv1 hv2
            go_wp2
            go_big_quiet (fail)
            go_wp2
            go_roundw
            case rel => first | exact ⟨k + 1, by omega, by go_num, by rw [HF.out], below_drewN hin _⟩ | ((repeat apply Exists.intro); exact ⟨⟨k + 1, by omega, by go_num, by rw [HF.out], below_drewN hin _⟩, rfl⟩)
            case measure => simp [intOf]; omega
          · have n1 : ((i : Int) != (k : Int)) = true := by simp; omega
            have n2 : (i != k) = true := by simp [hik]
            have n3 : ((k : Int) != (i : Int)) = true := by simp; omega
            have n4 : (k != i) = true := by simp; omega
            have n5 : (i == k) = false := by simp [hik]
            have n6 : (k == i) = false := by simp; omega
            by_cases hcl : clashB (F1 i) (F1 k) (F2 i) (F3 i) (F2 k) (F3 k) = true
            · have HF := Lib.hid (against_yes (F4 := F4) (show cl F1 F2 F3 i k = true by unfold cl; rw [hcl]; simp [hik]))
              clear hik
              go_wp2
              go_big_quiet ((go_at_call 91; exact Calls.quiet_of (l20Clash_any _ _ _ _ _ _ _ _ _ _ _ _ _ _ _ a0 a1 a2 a3 a4 c0 c1 c2 c3 c4)))
              go_wp2
              go_roundw
              case rel => first | exact ⟨k + 1, by omega, by go_num, by rw [HF.out], below_drewN hin _⟩ | ((repeat apply Exists.intro); exact ⟨⟨k + 1, by omega, by go_num, by rw [HF.out], below_drewN hin _⟩, rfl⟩)
              case measure => simp [intOf]; omega
            · have hcln : clashB (F1 i) (F1 k) (F2 i) (F3 i) (F2 k) (F3 k) = false := by simpa using hcl
              clear hcl
              have HF := Lib.hid (against_no (F4 := F4) (show cl F1 F2 F3 i k = false by unfold cl; rw [hcln]; simp))
              clear hik
              go_wp2
              go_big_quiet ((go_at_call 91; exact Calls.quiet_of (l20Clash_any _ _ _ _ _ _ _ _ _ _ _ _ _ _ _ a0 a1 a2 a3 a4 c0 c1 c2 c3 c4)))
              go_wp2
              go_roundw
              case rel => first | exact ⟨k + 1, by omega, by go_num, by rw [HF.out], below_drewN hin _⟩ | ((repeat apply Exists.intro); exact ⟨⟨k + 1, by omega, by go_num, by rw [HF.out], below_drewN hin _⟩, rfl⟩)
              case measure => simp [intOf]; omega
        · obtain rfl : k = n := by omega
          by_cases hmost : mm < against F1 F2 F3 F4 i k
          · have HN := Lib.hid (show Hid (((i : Int), against F1 F2 F3 F4 i k) = wst (fun i => against F1 F2 F3 F4 i k) (i + 1)) from wst_yes HW.out.out hmost)
            go_wp2
            go_roundw
            case rel => first | exact ⟨i + 1, (i : Int), against F1 F2 F3 F4 i k, by omega, by go_num, rfl, rfl, HN.out, hW0.trans (hin.mono hW0.size)⟩ | ((repeat apply Exists.intro); exact ⟨⟨i + 1, (i : Int), against F1 F2 F3 F4 i k, by omega, by go_num, rfl, rfl, HN.out, hW0.trans (hin.mono hW0.size)⟩, rfl⟩)
            case measure => simp [intOf]; omega
          · have hmd : decide (mm < against F1 F2 F3 F4 i k) = false := by simpa using hmost
            have HN := Lib.hid (show Hid ((b, mm) = wst (fun i => against F1 F2 F3 F4 i k) (i + 1)) from wst_no HW.out.out hmost)
            go_wp2
            go_roundw
            case rel => first | exact ⟨i + 1, b, mm, by omega, by go_num, rfl, rfl, HN.out, hW0.trans (hin.mono hW0.size)⟩ | ((repeat apply Exists.intro); exact ⟨⟨i + 1, b, mm, by omega, by go_num, rfl, rfl, HN.out, hW0.trans (hin.mono hW0.size)⟩, rfl⟩)
            case measure => simp [intOf]; omega
    · obtain rfl : i = n := by omega
      have HF := Lib.hid (show (wst (fun j => against F1 F2 F3 F4 j i) i).1 = b by rw [← hwst.out])
      clear hwst
      go_wp2
      go_ret
      exact ⟨by rw [HF.out]; rfl, hbel⟩

set_option maxHeartbeats 4000000 in
theorem worst_any (g n : Nat) (F0 : Nat → ByteArray) (F1 : Nat → ByteArray) (F2 : Nat → Int) (F3 : Nat → Int) (F4 : Nat → Int)  (w : World) (t1 : TypeId) (hn : n ≤ 1048576) (h1 : w.rowIs g t1 (n * 5) (flat 5 (rowPaper F0 F1 F2 F3 F4)))  (hval : ∀ i, i < n → F2 i ≤ F3 i) :
    Calls Try.prog 55 #[.slice (some ⟨g, 0, none⟩) n n] w fun e w' => e = .returned (.int .i64 (wst (fun i => against F1 F2 F3 F4 i n) n).1) ∧ Below w.heap.size w w' := by
  have hl1 := h1.lt
  have HR1 := Lib.hid (RdPaper.of_row h1)
  have H1 := Lib.hid h1
  clear h1 
  have HVAL := Lib.hid hval
  clear hval
  go_enter Try.func55, Try.ntmps55
  go_wp2
  go_loopw [3, 4, 12] (fun vb vm j wr => ∃ (i : Nat) (b mm : Int), i ≤ n ∧ j = .int .i64 i ∧ vb = .int .i64 b ∧ vm = .int .i64 mm ∧ Hid ((b, mm) = wst (fun i => against F1 F2 F3 F4 i n) i) ∧ Below w.heap.size w wr) (fun _ _ j _ => n - (intOf j).toNat)
  case atStart => exact ⟨0, -1, 0, Nat.zero_le _, rfl, rfl, rfl, rfl, Below.refl _ _⟩
  case round =>
    obtain ⟨i, b, mm, hi, rfl, rfl, rfl, hwst, hbel⟩ := hrel
    obtain ⟨wo, rfl⟩ : ∃ wo : World, wo = wr := ⟨_, rfl⟩
    by_cases hlt : i < n
    · have hlti : (i : Int) < (n : Int) := by omega
      have hii : (0 : Int) ≤ (i : Int) := by omega
      have hgo : g < wo.heap.size := Nat.lt_of_lt_of_le hl1 hbel.size
      obtain ⟨a0, a1, a2, a3, a4⟩ := HR1.out i hlt
      rw [← bcell hbel _ _ hl1] at a0 a1 a2 a3 a4
      simp only [Nat.zero_add] at a0 a1 a2 a3 a4
      have HW := Lib.hid hwst
      clear hwst
      go_wp2
      have hW0 : Below w.heap.size w (wo.alloc (.cells #[.string (F0 i), .string (F1 i), .int .i64 (F2 i), .int .i64 (F3 i), .int .i64 (F4 i)] 67)) := hbel.alloc hbel.size _
      have hgW : g < (wo.alloc (.cells #[.string (F0 i), .string (F1 i), .int .i64 (F2 i), .int .i64 (F3 i), .int .i64 (F4 i)] 67)).heap.size := by simp; omega
      have b0 : (wo.alloc (.cells #[.string (F0 i), .string (F1 i), .int .i64 (F2 i), .int .i64 (F3 i), .int .i64 (F4 i)] 67)).cell? ⟨wo.heap.size, 0, none⟩ = some (.string (F0 i)) := by simp
      have b1 : (wo.alloc (.cells #[.string (F0 i), .string (F1 i), .int .i64 (F2 i), .int .i64 (F3 i), .int .i64 (F4 i)] 67)).cell? ⟨wo.heap.size, 1, none⟩ = some (.string (F1 i)) := by simp
      have b2 : (wo.alloc (.cells #[.string (F0 i), .string (F1 i), .int .i64 (F2 i), .int .i64 (F3 i), .int .i64 (F4 i)] 67)).cell? ⟨wo.heap.size, 2, none⟩ = some (.int .i64 (F2 i)) := by simp
      have b3 : (wo.alloc (.cells #[.string (F0 i), .string (F1 i), .int .i64 (F2 i), .int .i64 (F3 i), .int .i64 (F4 i)] 67)).cell? ⟨wo.heap.size, 3, none⟩ = some (.int .i64 (F3 i)) := by simp
      have b4 : (wo.alloc (.cells #[.string (F0 i), .string (F1 i), .int .i64 (F2 i), .int .i64 (F3 i), .int .i64 (F4 i)] 67)).cell? ⟨wo.heap.size, 4, none⟩ = some (.int .i64 (F4 i)) := by simp
      have HB0 := Lib.hid b0
      have HB1 := Lib.hid b1
      have HB2 := Lib.hid b2
      have HB3 := Lib.hid b3
      have HB4 := Lib.hid b4
      clear b0 b1 b2 b3 b4
      have HA0 := Lib.hid a0
      have HA1 := Lib.hid a1
      have HA2 := Lib.hid a2
      have HA3 := Lib.hid a3
      have HA4 := Lib.hid a4
      clear a0 a1 a2 a3 a4
      go_loopw [7, 19] (fun v q wi => ∃ (k : Nat), k ≤ n ∧ q = .int .i64 k ∧ v = .int .i64 (against F1 F2 F3 F4 i k) ∧ Below (wo.alloc (.cells #[.string (F0 i), .string (F1 i), .int .i64 (F2 i), .int .i64 (F3 i), .int .i64 (F4 i)] 67)).heap.size (wo.alloc (.cells #[.string (F0 i), .string (F1 i), .int .i64 (F2 i), .int .i64 (F3 i), .int .i64 (F4 i)] 67)) wi) (fun _ q _ => n - (intOf q).toNat)
      case atStart => exact ⟨0, Nat.zero_le _, rfl, rfl, Below.refl _ _⟩
      case round =>
        obtain ⟨k, hk, rfl, rfl, hin⟩ := hrel
        by_cases hkn : k < n
        · have hkni : (k : Int) < (n : Int) := by omega
          have hki : (0 : Int) ≤ (k : Int) := by omega
          obtain ⟨c0, c1, c2, c3, c4⟩ := HR1.out k hkn
          have hbi := hW0.trans (hin.mono hW0.size)
          rw [← bcell hbi _ _ hl1] at c0 c1 c2 c3 c4
          simp only [Nat.zero_add] at c0 c1 c2 c3 c4
          have hgi : g < wr.heap.size := Nat.lt_of_lt_of_le hgW hin.size
          have hoi : wo.heap.size < wr.heap.size := Nat.lt_of_lt_of_le (by simp) hin.size
          have b0 := (bcell hin _ _ (by simp)).trans HB0.out
          have b1 := (bcell hin _ _ (by simp)).trans HB1.out
          have b2 := (bcell hin _ _ (by simp)).trans HB2.out
          have b3 := (bcell hin _ _ (by simp)).trans HB3.out
          have b4 := (bcell hin _ _ (by simp)).trans HB4.out
          have hv1 := HVAL.out i hlt
          have hv2 := HVAL.out k hkn
          by_cases hik : i = k
          · have HF := Lib.hid (against_no (F4 := F4) (show cl F1 F2 F3 i k = false by unfold cl; simp [hik]))
            have n1 : ((i : Int) != (k : Int)) = false := by simp [hik]
            have n2 : (i != k) = false := by simp [hik]
            have n3 : ((k : Int) != (i : Int)) = false := by simp [hik]
            have n4 : (k != i) = false := by simp [hik]
            have n5 : (i == k) = true := by simp [hik]
            have n6 : (k == i) = true := by simp [hik]
            clear hik hv1 hv2
            go_wp2
            go_roundw
            case rel => first | exact ⟨k + 1, by omega, by go_num, by rw [HF.out], hin.alloc (by have := hin.size; simpa using this) _⟩ | ((repeat apply Exists.intro); exact ⟨⟨k + 1, by omega, by go_num, by rw [HF.out], hin.alloc (by have := hin.size; simpa using this) _⟩, rfl⟩)
            case measure => simp [intOf]; omega
          · have n1 : ((i : Int) != (k : Int)) = true := by simp; omega
            have n2 : (i != k) = true := by simp [hik]
            have n3 : ((k : Int) != (i : Int)) = true := by simp; omega
            have n4 : (k != i) = true := by simp; omega
            have n5 : (i == k) = false := by simp [hik]
            have n6 : (k == i) = false := by simp; omega
            by_cases hcl : clashB (F1 i) (F1 k) (F2 i) (F3 i) (F2 k) (F3 k) = true
            · have HF := Lib.hid (against_yes (F4 := F4) (show cl F1 F2 F3 i k = true by unfold cl; rw [hcl]; simp [hik]))
              clear hik
              go_wp2_with (go_at_call 92; refine (clash_any _ _ _ _ _ _ _ _ _ _ _ hv1 hv2).mono ?_; rintro e w' ⟨rfl, rfl⟩)
              go_roundw
              case rel => first | exact ⟨k + 1, by omega, by go_num, by rw [HF.out], below3 hin _ _ _⟩ | ((repeat apply Exists.intro); exact ⟨⟨k + 1, by omega, by go_num, by rw [HF.out], below3 hin _ _ _⟩, rfl⟩)
              case measure => simp [intOf]; omega
            · have hcln : clashB (F1 i) (F1 k) (F2 i) (F3 i) (F2 k) (F3 k) = false := by simpa using hcl
              clear hcl
              have HF := Lib.hid (against_no (F4 := F4) (show cl F1 F2 F3 i k = false by unfold cl; rw [hcln]; simp))
              clear hik
              go_wp2_with (go_at_call 92; refine (clash_any _ _ _ _ _ _ _ _ _ _ _ hv1 hv2).mono ?_; rintro e w' ⟨rfl, rfl⟩)
              go_roundw
              case rel => first | exact ⟨k + 1, by omega, by go_num, by rw [HF.out], below3 hin _ _ _⟩ | ((repeat apply Exists.intro); exact ⟨⟨k + 1, by omega, by go_num, by rw [HF.out], below3 hin _ _ _⟩, rfl⟩)
              case measure => simp [intOf]; omega
        · obtain rfl : k = n := by omega
          by_cases hmost : mm < against F1 F2 F3 F4 i k
          · have HN := Lib.hid (show Hid (((i : Int), against F1 F2 F3 F4 i k) = wst (fun i => against F1 F2 F3 F4 i k) (i + 1)) from wst_yes HW.out.out hmost)
            go_wp2
            go_roundw
            case rel => first | exact ⟨i + 1, (i : Int), against F1 F2 F3 F4 i k, by omega, by go_num, rfl, rfl, HN.out, hW0.trans (hin.mono hW0.size)⟩ | ((repeat apply Exists.intro); exact ⟨⟨i + 1, (i : Int), against F1 F2 F3 F4 i k, by omega, by go_num, rfl, rfl, HN.out, hW0.trans (hin.mono hW0.size)⟩, rfl⟩)
            case measure => simp [intOf]; omega
          · have hmd : decide (mm < against F1 F2 F3 F4 i k) = false := by simpa using hmost
            have HN := Lib.hid (show Hid ((b, mm) = wst (fun i => against F1 F2 F3 F4 i k) (i + 1)) from wst_no HW.out.out hmost)
            go_wp2
            go_roundw
            case rel => first | exact ⟨i + 1, b, mm, by omega, by go_num, rfl, rfl, HN.out, hW0.trans (hin.mono hW0.size)⟩ | ((repeat apply Exists.intro); exact ⟨⟨i + 1, b, mm, by omega, by go_num, rfl, rfl, HN.out, hW0.trans (hin.mono hW0.size)⟩, rfl⟩)
            case measure => simp [intOf]; omega
    · obtain rfl : i = n := by omega
      have HF := Lib.hid (show (wst (fun j => against F1 F2 F3 F4 j i) i).1 = b by rw [← hwst.out])
      clear hwst
      go_wp2
      go_ret
      exact ⟨by rw [HF.out]; rfl, hbel⟩
end Go.Proofs.Ytkoijgeacekeaaa
