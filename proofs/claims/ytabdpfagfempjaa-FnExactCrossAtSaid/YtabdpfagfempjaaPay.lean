/- What a policy pays and costs. -/
import Derived.Test.YtabdpfagfempjaaPolicyV
import Derived.Test.YtabdpfagfempjaaInt0
import Derived.Test.YtabdpfagfempjaaMore
namespace Go.Proofs.Ytabdpfagfempjaa
open Go.RowKit
attribute [local go_sem ↓] Go.wp_at_zero Go.wp_at_succ
set_option linter.unusedVariables false

/-- The greater of 0 and a number; the smaller of two. -/
def pos0 (d : Int) : Int := if 0 < d then d else 0

theorem pos_yes {d : Int} (h : 0 < d) : pos0 d = d := by unfold pos0; rw [if_pos h]

theorem pos_no {d : Int} (h : ¬ 0 < d) : pos0 d = 0 := by unfold pos0; rw [if_neg h]

def minI (a b : Int) : Int := if a < b then a else b

/-- What a policy pays. -/
def partV (x2 x3 d : Int) : Int := wrap64 ((wrap64 (pos0 (wrap64 (d - x3)) * x2)).tdiv 1000)
def paidV (x2 x3 x4 d : Int) : Int := minI x4 (partV x2 x3 d)

/-- The sum that begins with a, each addition as the machine does it. -/
def sumFrom (a : Int) (f : Nat → Int) : Nat → Int
  | 0 => a
  | k + 1 => wrap64 (sumFrom a f k + f k)

theorem sumFrom_succ (a : Int) (f : Nat → Int) (k : Nat) : sumFrom a f (k + 1) = wrap64 (sumFrom a f k + f k) := rfl

set_option maxHeartbeats 400000 in
theorem l00Max0_any (d : Int) (w : World) :
    Calls Try.prog 164 #[.int .i64 0, .int .i64 d] w fun e w' => e = .returned (.int .i64 (pos0 d)) ∧ w = w' := by
  by_cases h : 0 < d
  · have HF := Lib.hid (pos_yes h)
    go_enter Try.func164, Try.ntmps164
    go_wp2
    go_ret
    exact ⟨by rw [HF.out]; rfl, rfl⟩
  · have HF := Lib.hid (pos_no h)
    go_enter Try.func164, Try.ntmps164
    go_wp2
    all_goals (go_ret; exact ⟨by rw [HF.out]; first | rfl | (simp; omega), rfl⟩)

set_option maxHeartbeats 400000 in
theorem l00Min_any (a b : Int) (w : World) :
    Calls Try.prog 163 #[.int .i64 a, .int .i64 b] w fun e w' => e = .returned (.int .i64 (minI a b)) ∧ w = w' := by
  by_cases h : a < b
  · have HF := Lib.hid (show minI a b = a by unfold minI; rw [if_pos h])
    go_enter Try.func163, Try.ntmps163
    go_wp2
    go_ret
    exact ⟨by rw [HF.out]; rfl, rfl⟩
  · have HF := Lib.hid (show minI a b = b by unfold minI; rw [if_neg h])
    go_enter Try.func163, Try.ntmps163
    go_wp2
    go_ret
    exact ⟨by rw [HF.out]; rfl, rfl⟩

set_option maxHeartbeats 1000000 in
theorem paid_any (x0 : ByteArray) (x1 : Int) (x2 : Int) (x3 : Int) (x4 : Int) (d : Int) (w : World) :
    Calls Try.prog 138 #[.agg #[.string x0, .int .i64 x1, .int .i64 x2, .int .i64 x3, .int .i64 x4], .int .i64 d] w fun e w' => e = .returned (.int .i64 (paidV x2 x3 x4 d)) ∧ w.alloc (.cells #[.string x0, .int .i64 x1, .int .i64 x2, .int .i64 x3, .int .i64 x4] 34) = w' := by
  by_cases h : 0 < wrap64 (d - x3)
  · have HP := Lib.hid (show partV x2 x3 d = wrap64 ((wrap64 (x2 * wrap64 (d - x3))).tdiv 1000) by unfold partV; rw [pos_yes h, Int.mul_comm])
    by_cases h2 : x4 < wrap64 ((wrap64 (x2 * wrap64 (d - x3))).tdiv 1000)
    · have HF := Lib.hid (show paidV x2 x3 x4 d = x4 by unfold paidV minI; rw [HP.out, if_pos h2])
      clear HP
      go_enter Try.func138, Try.ntmps138
      go_wp2
      all_goals (go_ret; exact ⟨by rw [HF.out]; first | rfl | (simp; omega) | (simp; simp at h2; omega), rfl⟩)
    · have HF := Lib.hid (show paidV x2 x3 x4 d = wrap64 ((wrap64 (x2 * wrap64 (d - x3))).tdiv 1000) by unfold paidV minI; rw [HP.out, if_neg h2])
      clear HP
      go_enter Try.func138, Try.ntmps138
      go_wp2
      all_goals (go_ret; exact ⟨by rw [HF.out]; first | rfl | (simp; omega) | (simp; simp at h2; omega), rfl⟩)
  · have HP := Lib.hid (show partV x2 x3 d = 0 by unfold partV; rw [pos_no h, Int.zero_mul]; decide +kernel)
    by_cases h2 : x4 < 0
    · have HF := Lib.hid (show paidV x2 x3 x4 d = x4 by unfold paidV minI; rw [HP.out, if_pos h2])
      clear HP
      go_enter Try.func138, Try.ntmps138
      go_wp2
      all_goals (go_ret; exact ⟨by rw [HF.out]; first | rfl | (simp; omega) | (simp; simp at h2; omega), rfl⟩)
    · have HF := Lib.hid (show paidV x2 x3 x4 d = 0 by unfold paidV minI; rw [HP.out, if_neg h2])
      clear HP
      go_enter Try.func138, Try.ntmps138
      go_wp2
      all_goals (go_ret; exact ⟨by rw [HF.out]; first | rfl | (simp; omega) | (simp; simp at h2; omega), rfl⟩)

set_option maxHeartbeats 1000000 in
theorem l23Paid_any (b o : Nat) (x0 : ByteArray) (x1 : Int) (x2 : Int) (x3 : Int) (x4 : Int) (d : Int) (w : World) (h0 : w.cell? ⟨b, o, none⟩ = some (.string x0)) (h1 : w.cell? ⟨b, o + 1, none⟩ = some (.int .i64 x1)) (h2 : w.cell? ⟨b, o + 2, none⟩ = some (.int .i64 x2)) (h3 : w.cell? ⟨b, o + 3, none⟩ = some (.int .i64 x3)) (h4 : w.cell? ⟨b, o + 4, none⟩ = some (.int .i64 x4)) :
    Calls Try.prog 135 #[.pointer (some ⟨b, o, none⟩), .int .i64 d] w fun e w' => e = .returned (.int .i64 (paidV x2 x3 x4 d)) ∧ ∃ q, w' = w.drewN q := by
  go_enter Try.func135, Try.ntmps135
  go_wp2
  go_big_quiet (first | (go_at_call 164; exact still_quiet (l00Max0_any _ _)) | (go_at_call 163; exact still_quiet (l00Min_any _ _ _)))
  go_wp2
  go_ret
  exact ⟨by unfold paidV partV; rfl, _, rfl⟩

set_option maxHeartbeats 2000000 in
theorem cost_any (x0 : ByteArray) (x1 : Int) (x2 : Int) (x3 : Int) (x4 : Int) (g n : Nat) (z : Nat → Int) (t1 : TypeId) (w : World) (hn : n ≤ 1048576) (h1 : w.rowIs g t1 n (rowInts z)) :
    Calls Try.prog 80 #[.agg #[.string x0, .int .i64 x1, .int .i64 x2, .int .i64 x3, .int .i64 x4], .slice (some ⟨g, 0, none⟩) n n] w fun e w' => e = .returned (.int .i64 (sumFrom x1 (fun k => wrap64 (z k - paidV x2 x3 x4 (z k))) n)) ∧ Below w.heap.size w w' := by
  have hl1 := h1.lt
  have HR1 := Lib.hid (RdInts.of_row h1)
  clear h1
  go_enter Try.func80, Try.ntmps80
  go_wp2
  go_loopw [5, 12] (fun v i wr => ∃ (k : Nat), k ≤ n ∧ i = .int .i64 k ∧ v = .int .i64 (sumFrom x1 (fun k => wrap64 (z k - paidV x2 x3 x4 (z k))) k) ∧ Below (w.alloc (.cells #[.string x0, .int .i64 x1, .int .i64 x2, .int .i64 x3, .int .i64 x4] 34)).heap.size (w.alloc (.cells #[.string x0, .int .i64 x1, .int .i64 x2, .int .i64 x3, .int .i64 x4] 34)) wr) (fun _ i _ => n - (intOf i).toNat)
  case atStart => exact ⟨0, Nat.zero_le _, rfl, rfl, Below.refl _ _⟩
  case round =>
    obtain ⟨k, hk, rfl, rfl, hbel⟩ := hrel
    by_cases hlt : k < n
    · have hlti : (k : Int) < (n : Int) := by omega
      have c0 := HR1.out k hlt
      rw [← World.cell?_alloc_lt w (.cells #[.string x0, .int .i64 x1, .int .i64 x2, .int .i64 x3, .int .i64 x4] 34) _ hl1, ← bcell hbel _ _ (by simp; omega)] at c0
      simp only [Nat.zero_add] at c0
      have z0 : wr.cell? ⟨w.heap.size, 0, none⟩ = some (.string x0) := (bcell hbel _ _ (by simp)).trans (by simp)
      have z1 : wr.cell? ⟨w.heap.size, 1, none⟩ = some (.int .i64 x1) := (bcell hbel _ _ (by simp)).trans (by simp)
      have z2 : wr.cell? ⟨w.heap.size, 2, none⟩ = some (.int .i64 x2) := (bcell hbel _ _ (by simp)).trans (by simp)
      have z3 : wr.cell? ⟨w.heap.size, 3, none⟩ = some (.int .i64 x3) := (bcell hbel _ _ (by simp)).trans (by simp)
      have z4 : wr.cell? ⟨w.heap.size, 4, none⟩ = some (.int .i64 x4) := (bcell hbel _ _ (by simp)).trans (by simp)
      have HF := Lib.hid (sumFrom_succ x1 (fun k => wrap64 (z k - paidV x2 x3 x4 (z k))) k)
      go_wp2_with fail
      refine (paid_any _ _ _ _ _ _ _).mono ?_
      rintro e w2 ⟨rfl, hw2⟩
      have hB : Below (w.alloc (.cells #[.string x0, .int .i64 x1, .int .i64 x2, .int .i64 x3, .int .i64 x4] 34)).heap.size (w.alloc (.cells #[.string x0, .int .i64 x1, .int .i64 x2, .int .i64 x3, .int .i64 x4] 34)) w2 := by subst hw2; exact hbel.alloc hbel.size _
      clear hw2 z0 z1 z2 z3 z4 c0
      go_wp2
      go_roundw
      case rel => first | exact ⟨k + 1, by omega, by go_num, by rw [HF.out], hB⟩ | ((repeat apply Exists.intro); exact ⟨⟨k + 1, by omega, by go_num, by rw [HF.out], hB⟩, rfl⟩)
      case measure => simp [intOf]; omega
    · obtain rfl : k = n := by omega
      go_wp2
      go_ret
      exact ⟨rfl, (below_new w _).trans (hbel.mono (by simp))⟩

set_option maxHeartbeats 2000000 in
theorem l23Cost_any (b o : Nat) (x0 : ByteArray) (x1 : Int) (x2 : Int) (x3 : Int) (x4 : Int) (g n : Nat) (z : Nat → Int) (t1 : TypeId) (w : World) (h0 : w.cell? ⟨b, o, none⟩ = some (.string x0)) (h1 : w.cell? ⟨b, o + 1, none⟩ = some (.int .i64 x1)) (h2 : w.cell? ⟨b, o + 2, none⟩ = some (.int .i64 x2)) (h3 : w.cell? ⟨b, o + 3, none⟩ = some (.int .i64 x3)) (h4 : w.cell? ⟨b, o + 4, none⟩ = some (.int .i64 x4)) (hbl : b < w.heap.size) (hn : n ≤ 1048576) (h1_ : w.rowIs g t1 n (rowInts z)) :
    Calls Try.prog 78 #[.pointer (some ⟨b, o, none⟩), .slice (some ⟨g, 0, none⟩) n n] w fun e w' => e = .returned (.int .i64 (sumFrom x1 (fun k => wrap64 (z k - paidV x2 x3 x4 (z k))) n)) ∧ Below w.heap.size w w' := by
  have hl1 := h1_.lt
  have HR1 := Lib.hid (RdInts.of_row h1_)
  clear h1_
  go_enter Try.func78, Try.ntmps78
  go_wp2
  go_loopw [5, 6] (fun v i wr => ∃ (k : Nat), k ≤ n ∧ i = .int .i64 k ∧ v = .int .i64 (sumFrom x1 (fun k => wrap64 (z k - paidV x2 x3 x4 (z k))) k) ∧ Below w.heap.size w wr) (fun _ i _ => n - (intOf i).toNat)
  case atStart => exact ⟨0, Nat.zero_le _, rfl, rfl, Below.refl _ _⟩
  case round =>
    obtain ⟨k, hk, rfl, rfl, hbel⟩ := hrel
    by_cases hlt : k < n
    · have hlti : (k : Int) < (n : Int) := by omega
      have c0 := HR1.out k hlt
      rw [← bcell hbel _ _ hl1] at c0
      simp only [Nat.zero_add] at c0
      have z0 := (bcell hbel _ _ hbl).trans h0
      have z1 := (bcell hbel _ _ hbl).trans h1
      have z2 := (bcell hbel _ _ hbl).trans h2
      have z3 := (bcell hbel _ _ hbl).trans h3
      have z4 := (bcell hbel _ _ hbl).trans h4
      have HF := Lib.hid (sumFrom_succ x1 (fun k => wrap64 (z k - paidV x2 x3 x4 (z k))) k)
      clear h0 h1 h2 h3 h4
      go_wp2
      go_big_quiet ((go_at_call 135; exact Calls.quiet_of (l23Paid_any _ _ _ _ _ _ _ _ _ z0 z1 z2 z3 z4)))
      go_wp2
      go_roundw
      case rel => first | exact ⟨k + 1, by omega, by go_num, by rw [HF.out], below_drewN hbel _⟩ | ((repeat apply Exists.intro); exact ⟨⟨k + 1, by omega, by go_num, by rw [HF.out], below_drewN hbel _⟩, rfl⟩)
      case measure => simp [intOf]; omega
    · obtain rfl : k = n := by omega
      go_wp2
      go_ret
      exact ⟨rfl, hbel⟩
end Go.Proofs.Ytabdpfagfempjaa
