/- The strength of a pot. -/
import Derived.Test.YtllmillhdmknpaaPotV
import Derived.Test.YtllmillhdmknpaaDiv
import Derived.Test.YtllmillhdmknpaaMore
namespace Go.Proofs.Ytllmillhdmknpaa
open Go.RowKit
attribute [local go_sem ↓] Go.wp_at_zero Go.wp_at_succ
set_option linter.unusedVariables false

@[local go_sem high] theorem run_max2 {P : Program} (w : World) (ts : Array TypeId) (t : TypeId) (k k1 : IntKind) (x y : Int) : (Builtin.max_ ts t #[.int k x, .int k1 y]).run P w = .ok (.int k (max x y)) w := by
  rw [run_max_int2]
  have e : max x y = if y > x then y else x := by split <;> omega
  rw [e]

set_option maxHeartbeats 400000 in
theorem l00Max_any (a b : Int) (w : World) :
    Calls Try.prog 74 #[.int .i64 a, .int .i64 b] w fun e w' => e = .returned (.int .i64 (max a b)) ∧ w = w' := by
  by_cases h : b < a
  · have HF := Lib.hid (show max a b = a by omega)
    go_enter Try.func74, Try.ntmps74
    go_wp2
    go_ret
    exact ⟨by rw [HF.out]; rfl, rfl⟩
  · have HF := Lib.hid (show max a b = b by omega)
    go_enter Try.func74, Try.ntmps74
    go_wp2
    all_goals (go_ret; exact ⟨by rw [HF.out]; first | rfl | (simp; omega), rfl⟩)

theorem rdiv_bd {a b : Int} (ha : 0 ≤ a) (hb : 1 ≤ b) : 0 ≤ rdiv a b ∧ rdiv a b ≤ a + 1 := by
  unfold rdiv
  rw [if_neg (by omega)]
  refine ⟨Int.ediv_nonneg (by omega) (by omega), ?_⟩
  have h : (2 * a + b) / (2 * b) ≤ (2 * a + b + (2 * b) * 0) / (2 * b) := by simp
  have h2 : (2 * a + b) / (2 * b) < a + 2 := by
    refine Int.ediv_lt_of_lt_mul (by omega) ?_
    have : a ≤ a * b := by have := Int.mul_le_mul_of_nonneg_left hb ha; omega
    have e : (a + 2) * (2 * b) = 2 * (a * b) + 4 * b := by rw [Int.add_mul, ← Int.mul_assoc, Int.mul_comm a 2, Int.mul_assoc]; omega
    omega
  omega

/-- The strength of a pot. -/
def strV (x1 x2 x3 x4 : Int) : Int := max 0 (rdiv (1000 * x1) (x1 + x2) - 2 * x4 - 10 * max 0 (x3 - 70))

set_option maxHeartbeats 2000000 in
theorem strength_any (x0 : ByteArray) (x1 : Int) (x2 : Int) (x3 : Int) (x4 : Int) (w : World) (p1 : 1 ≤ x1) (p2 : x1 ≤ 10000) (p3 : 1 ≤ x2) (p4 : x2 ≤ 10000) (p5 : 20 ≤ x3) (p6 : x3 ≤ 95) (p7 : 0 ≤ x4) (p8 : x4 ≤ 2000) :
    Calls Try.prog 71 #[.agg #[.string x0, .int .i64 x1, .int .i64 x2, .int .i64 x3, .int .i64 x4]] w fun e w' => e = .returned (.int .i64 (strV x1 x2 x3 x4)) ∧ Below w.heap.size w w' := by
  have hq := rdiv_bd (a := 1000 * x1) (b := x1 + x2) (by omega) (by omega)
  obtain ⟨hq1, hq2⟩ := hq
  go_enter Try.func71, Try.ntmps71
  go_wp2
  have y0 := Ext.cell (W := (w.alloc (.cells #[.string x0, .int .i64 x1, .int .i64 x2, .int .i64 x3, .int .i64 x4] 27))) (b := w.heap.size) (o := 0) (u := .string x0) (by simp) (by simp)
  have y1 := Ext.cell (W := (w.alloc (.cells #[.string x0, .int .i64 x1, .int .i64 x2, .int .i64 x3, .int .i64 x4] 27))) (b := w.heap.size) (o := 1) (u := .int .i64 x1) (by simp) (by simp)
  have y2 := Ext.cell (W := (w.alloc (.cells #[.string x0, .int .i64 x1, .int .i64 x2, .int .i64 x3, .int .i64 x4] 27))) (b := w.heap.size) (o := 2) (u := .int .i64 x2) (by simp) (by simp)
  have y3 := Ext.cell (W := (w.alloc (.cells #[.string x0, .int .i64 x1, .int .i64 x2, .int .i64 x3, .int .i64 x4] 27))) (b := w.heap.size) (o := 3) (u := .int .i64 x3) (by simp) (by simp)
  have y4 := Ext.cell (W := (w.alloc (.cells #[.string x0, .int .i64 x1, .int .i64 x2, .int .i64 x3, .int .i64 x4] 27))) (b := w.heap.size) (o := 4) (u := .int .i64 x4) (by simp) (by simp)
  refine wp_region_ext (by kernel_rfl) (by kernel_rfl) ?_
  repeat (go_big_quiet_step ((go_at_call 78; exact ext_same (divRound_any _ _ _ (by omega) (by omega) (by omega) (by omega)))))
  refine wpQuiet_nil ?_
  intro W1 hx
  obtain ⟨x, hx⟩ := hx
  have hW1 := x.h
  rw [← hx] at hW1
  clear hx x y0 y1 y2 y3 y4
  go_wp2
  go_ret
  exact ⟨by unfold strV; rfl, (below_new w _).trans (hW1.mono (by simp))⟩

set_option maxHeartbeats 2000000 in
theorem l14Strong_any (b o : Nat) (x0 : ByteArray) (x1 : Int) (x2 : Int) (x3 : Int) (x4 : Int) (w : World) (p1 : 1 ≤ x1) (p2 : x1 ≤ 10000) (p3 : 1 ≤ x2) (p4 : x2 ≤ 10000) (p5 : 20 ≤ x3) (p6 : x3 ≤ 95) (p7 : 0 ≤ x4) (p8 : x4 ≤ 2000) (h0 : w.cell? ⟨b, o, none⟩ = some (.string x0)) (h1 : w.cell? ⟨b, o + 1, none⟩ = some (.int .i64 x1)) (h2 : w.cell? ⟨b, o + 2, none⟩ = some (.int .i64 x2)) (h3 : w.cell? ⟨b, o + 3, none⟩ = some (.int .i64 x3)) (h4 : w.cell? ⟨b, o + 4, none⟩ = some (.int .i64 x4)) :
    Calls Try.prog 68 #[.pointer (some ⟨b, o, none⟩)] w fun e w' => e = .returned (.int .i64 (strV x1 x2 x3 x4)) ∧ Below w.heap.size w w' := by
  have hq := rdiv_bd (a := 1000 * x1) (b := x1 + x2) (by omega) (by omega)
  obtain ⟨hq1, hq2⟩ := hq
  go_enter Try.func68, Try.ntmps68
  go_wp2
  go_big_quiet (first | (go_at_call 74; exact still_quiet (l00Max_any _ _ _)) | (go_at_call 75; exact still_quiet (l01Div_any _ _ _ (by omega) (by omega) (by omega) (by omega))))
  go_wp2
  go_ret
  exact ⟨by unfold strV; rfl, below_drewN (Below.refl _ _) _⟩

theorem vPot_bd {x0 : ByteArray} {x1 : Int} {x2 : Int} {x3 : Int} {x4 : Int} (h : vPot x0 x1 x2 x3 x4 = true) : (1 ≤ x1 ∧ x1 ≤ 10000) ∧ (1 ≤ x2 ∧ x2 ≤ 10000) ∧ (20 ≤ x3 ∧ x3 ≤ 95) ∧ (0 ≤ x4 ∧ x4 ≤ 1000) := by
  unfold vPot at h
  simp only [Bool.and_eq_true] at h
  exact ⟨inB_true h.2.1, inB_true h.2.2.1, inB_true h.2.2.2.1, inB_true h.2.2.2.2⟩
end Go.Proofs.Ytllmillhdmknpaa
