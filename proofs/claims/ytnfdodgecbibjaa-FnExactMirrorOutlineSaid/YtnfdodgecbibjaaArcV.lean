/- The contracts of arcs and outlines that are valid. -/
import Derived.Test.YtnfdodgecbibjaaArc
import Derived.Test.YtnfdodgecbibjaaMore
namespace Go.Proofs.Ytnfdodgecbibjaa
open Go.RowKit
attribute [local go_sem ↓] Go.wp_at_zero Go.wp_at_succ
set_option linter.unusedVariables false

/-- A point; the square of a distance; an arc. -/
def ptB (a b : Int) : Bool := inB a (-100000) 100000 && inB b (-100000) 100000
def sqV (a b c d : Int) : Int := wrap64 (wrap64 (wrap64 (a - c) * wrap64 (a - c)) + wrap64 (wrap64 (b - d) * wrap64 (b - d)))
def vArc (x0 : Int) (x1 : Int) (x2 : Int) (x3 : Int) (x4 : Int) (x5 : Int) : Bool := ptB x0 x1 && (ptB x2 x3 && (ptB x4 x5 && ((!(decide (x2 = x4) && decide (x3 = x5))) && decide (sqV x0 x1 x2 x3 = sqV x0 x1 x4 x5))))

set_option maxHeartbeats 1000000 in
theorem validPoint_any (x0 x1 : Int) (w : World) :
    Calls Try.prog 48 #[.agg #[.int .i64 x0, .int .i64 x1]] w fun e w' => e = .returned (.bool (ptB x0 x1)) ∧ Below w.heap.size w w' := by
  go_enter Try.func48, Try.ntmps48
  go_wp2_with (first | (go_at_call 43; refine (within_any _ _ _ _).mono ?_; rintro e w' ⟨rfl, rfl⟩) | (go_at_call 50; go_in))
  all_goals (go_ret; exact ⟨by simp [ptB, *], below_new _ _⟩)

set_option maxHeartbeats 1000000 in
theorem l05Point_any (x0 x1 : Int) (w : World) :
    Calls Try.prog 47 #[.agg #[.int .i64 x0, .int .i64 x1]] w fun e w' => e = .returned (.bool (ptB x0 x1)) ∧ Below w.heap.size w w' := by
  go_enter Try.func47, Try.ntmps47
  go_wp2_with (first | (go_at_call 49; refine (l00In_any _ _ _ _).mono ?_; rintro e w' ⟨rfl, rfl⟩))
  all_goals (go_ret; exact ⟨by simp [ptB, *], below_new _ _⟩)

set_option maxHeartbeats 1000000 in
theorem squared_any (a b c d : Int) (w : World) :
    Calls Try.prog 32 #[.agg #[.int .i64 a, .int .i64 b], .agg #[.int .i64 c, .int .i64 d]] w fun e w' => e = .returned (.int .i64 (sqV a b c d)) ∧ Below w.heap.size w w' := by
  go_enter Try.func32, Try.ntmps32
  go_wp2
  go_ret
  exact ⟨by unfold sqV; rfl, (below_new _ _).alloc (by simp) _⟩

set_option maxHeartbeats 1000000 in
theorem l05Square_any (a b c d : Int) (w : World) :
    Calls Try.prog 31 #[.agg #[.int .i64 a, .int .i64 b], .agg #[.int .i64 c, .int .i64 d]] w fun e w' => e = .returned (.int .i64 (sqV a b c d)) ∧ Below w.heap.size w w' := by
  go_enter Try.func31, Try.ntmps31
  go_wp2
  go_ret
  exact ⟨by unfold sqV; rfl, (below_new _ _).alloc (by simp) _⟩

theorem calls_b {P : Program} {f : FuncId} {args : Array Value} {w : World} {x b : Bool} (h : Calls P f args w fun e w' => e = .returned (.bool x) ∧ Below w.heap.size w w') (hb : x = b) :
    Calls P f args w fun e w' => e = .returned (.bool b) ∧ Below w.heap.size w w' := hb ▸ h

set_option maxHeartbeats 4000000 in
theorem ValidArc_any (x0 : Int) (x1 : Int) (x2 : Int) (x3 : Int) (x4 : Int) (x5 : Int) (w : World) :
    Calls Try.prog 41 #[.agg #[.int .i64 x0, .int .i64 x1, .int .i64 x2, .int .i64 x3, .int .i64 x4, .int .i64 x5]] w fun e w' => e = .returned (.bool (vArc x0 x1 x2 x3 x4 x5)) ∧ Below w.heap.size w w' := by
  by_cases p0 : ptB x0 x1 = true
  case neg =>
    have p0n : ptB x0 x1 = false := by simpa using p0
    clear p0
    have HF := Lib.hid (show vArc x0 x1 x2 x3 x4 x5 = false by unfold vArc; rw [p0n]; rfl)
    go_enter Try.func41, Try.ntmps41
    go_wp2
    have z0 : (w.alloc (.cells #[.int .i64 x0, .int .i64 x1, .int .i64 x2, .int .i64 x3, .int .i64 x4, .int .i64 x5] 43)).cell? ⟨w.heap.size, 0, none⟩ = some (.int .i64 x0) := by simp
    have z1 : (w.alloc (.cells #[.int .i64 x0, .int .i64 x1, .int .i64 x2, .int .i64 x3, .int .i64 x4, .int .i64 x5] 43)).cell? ⟨w.heap.size, 1, none⟩ = some (.int .i64 x1) := by simp
    have z2 : (w.alloc (.cells #[.int .i64 x0, .int .i64 x1, .int .i64 x2, .int .i64 x3, .int .i64 x4, .int .i64 x5] 43)).cell? ⟨w.heap.size, 2, none⟩ = some (.int .i64 x2) := by simp
    have z3 : (w.alloc (.cells #[.int .i64 x0, .int .i64 x1, .int .i64 x2, .int .i64 x3, .int .i64 x4, .int .i64 x5] 43)).cell? ⟨w.heap.size, 3, none⟩ = some (.int .i64 x3) := by simp
    have z4 : (w.alloc (.cells #[.int .i64 x0, .int .i64 x1, .int .i64 x2, .int .i64 x3, .int .i64 x4, .int .i64 x5] 43)).cell? ⟨w.heap.size, 4, none⟩ = some (.int .i64 x4) := by simp
    have z5 : (w.alloc (.cells #[.int .i64 x0, .int .i64 x1, .int .i64 x2, .int .i64 x3, .int .i64 x4, .int .i64 x5] 43)).cell? ⟨w.heap.size, 5, none⟩ = some (.int .i64 x5) := by simp
    have y0 := Ext.cell (W := (w.alloc (.cells #[.int .i64 x0, .int .i64 x1, .int .i64 x2, .int .i64 x3, .int .i64 x4, .int .i64 x5] 43))) (b := w.heap.size) (o := 0) (u := .int .i64 x0) z0 (by simp)
    have y1 := Ext.cell (W := (w.alloc (.cells #[.int .i64 x0, .int .i64 x1, .int .i64 x2, .int .i64 x3, .int .i64 x4, .int .i64 x5] 43))) (b := w.heap.size) (o := 1) (u := .int .i64 x1) z1 (by simp)
    have y2 := Ext.cell (W := (w.alloc (.cells #[.int .i64 x0, .int .i64 x1, .int .i64 x2, .int .i64 x3, .int .i64 x4, .int .i64 x5] 43))) (b := w.heap.size) (o := 2) (u := .int .i64 x2) z2 (by simp)
    have y3 := Ext.cell (W := (w.alloc (.cells #[.int .i64 x0, .int .i64 x1, .int .i64 x2, .int .i64 x3, .int .i64 x4, .int .i64 x5] 43))) (b := w.heap.size) (o := 3) (u := .int .i64 x3) z3 (by simp)
    have y4 := Ext.cell (W := (w.alloc (.cells #[.int .i64 x0, .int .i64 x1, .int .i64 x2, .int .i64 x3, .int .i64 x4, .int .i64 x5] 43))) (b := w.heap.size) (o := 4) (u := .int .i64 x4) z4 (by simp)
    have y5 := Ext.cell (W := (w.alloc (.cells #[.int .i64 x0, .int .i64 x1, .int .i64 x2, .int .i64 x3, .int .i64 x4, .int .i64 x5] 43))) (b := w.heap.size) (o := 5) (u := .int .i64 x5) z5 (by simp)
    refine wp_region_ext (by kernel_rfl) (by kernel_rfl) ?_
    repeat (go_big_quiet_step (first | (go_at_call 48; exact ext_call (calls_b (validPoint_any _ _ _) (by assumption))) | (go_at_call 32; exact ext_call (squared_any _ _ _ _ _))))
    refine wpQuiet_nil ?_
    intro W1 hx
    obtain ⟨x, hx⟩ := hx
    have hW1 := x.h
    rw [← hx] at hW1
    clear hx x y0 y1 y2 y3 y4 y5
    go_wp2
    go_ret
    exact ⟨by rw [HF.out]; first | rfl | (simp; done), (below_new w _).trans (hW1.mono (by simp))⟩
  by_cases p1 : ptB x2 x3 = true
  case neg =>
    have p1n : ptB x2 x3 = false := by simpa using p1
    clear p1
    have HF := Lib.hid (show vArc x0 x1 x2 x3 x4 x5 = false by unfold vArc; rw [p0, p1n]; rfl)
    go_enter Try.func41, Try.ntmps41
    go_wp2
    have z0 : (w.alloc (.cells #[.int .i64 x0, .int .i64 x1, .int .i64 x2, .int .i64 x3, .int .i64 x4, .int .i64 x5] 43)).cell? ⟨w.heap.size, 0, none⟩ = some (.int .i64 x0) := by simp
    have z1 : (w.alloc (.cells #[.int .i64 x0, .int .i64 x1, .int .i64 x2, .int .i64 x3, .int .i64 x4, .int .i64 x5] 43)).cell? ⟨w.heap.size, 1, none⟩ = some (.int .i64 x1) := by simp
    have z2 : (w.alloc (.cells #[.int .i64 x0, .int .i64 x1, .int .i64 x2, .int .i64 x3, .int .i64 x4, .int .i64 x5] 43)).cell? ⟨w.heap.size, 2, none⟩ = some (.int .i64 x2) := by simp
    have z3 : (w.alloc (.cells #[.int .i64 x0, .int .i64 x1, .int .i64 x2, .int .i64 x3, .int .i64 x4, .int .i64 x5] 43)).cell? ⟨w.heap.size, 3, none⟩ = some (.int .i64 x3) := by simp
    have z4 : (w.alloc (.cells #[.int .i64 x0, .int .i64 x1, .int .i64 x2, .int .i64 x3, .int .i64 x4, .int .i64 x5] 43)).cell? ⟨w.heap.size, 4, none⟩ = some (.int .i64 x4) := by simp
    have z5 : (w.alloc (.cells #[.int .i64 x0, .int .i64 x1, .int .i64 x2, .int .i64 x3, .int .i64 x4, .int .i64 x5] 43)).cell? ⟨w.heap.size, 5, none⟩ = some (.int .i64 x5) := by simp
    have y0 := Ext.cell (W := (w.alloc (.cells #[.int .i64 x0, .int .i64 x1, .int .i64 x2, .int .i64 x3, .int .i64 x4, .int .i64 x5] 43))) (b := w.heap.size) (o := 0) (u := .int .i64 x0) z0 (by simp)
    have y1 := Ext.cell (W := (w.alloc (.cells #[.int .i64 x0, .int .i64 x1, .int .i64 x2, .int .i64 x3, .int .i64 x4, .int .i64 x5] 43))) (b := w.heap.size) (o := 1) (u := .int .i64 x1) z1 (by simp)
    have y2 := Ext.cell (W := (w.alloc (.cells #[.int .i64 x0, .int .i64 x1, .int .i64 x2, .int .i64 x3, .int .i64 x4, .int .i64 x5] 43))) (b := w.heap.size) (o := 2) (u := .int .i64 x2) z2 (by simp)
    have y3 := Ext.cell (W := (w.alloc (.cells #[.int .i64 x0, .int .i64 x1, .int .i64 x2, .int .i64 x3, .int .i64 x4, .int .i64 x5] 43))) (b := w.heap.size) (o := 3) (u := .int .i64 x3) z3 (by simp)
    have y4 := Ext.cell (W := (w.alloc (.cells #[.int .i64 x0, .int .i64 x1, .int .i64 x2, .int .i64 x3, .int .i64 x4, .int .i64 x5] 43))) (b := w.heap.size) (o := 4) (u := .int .i64 x4) z4 (by simp)
    have y5 := Ext.cell (W := (w.alloc (.cells #[.int .i64 x0, .int .i64 x1, .int .i64 x2, .int .i64 x3, .int .i64 x4, .int .i64 x5] 43))) (b := w.heap.size) (o := 5) (u := .int .i64 x5) z5 (by simp)
    refine wp_region_ext (by kernel_rfl) (by kernel_rfl) ?_
    repeat (go_big_quiet_step (first | (go_at_call 48; exact ext_call (calls_b (validPoint_any _ _ _) (by assumption))) | (go_at_call 32; exact ext_call (squared_any _ _ _ _ _))))
    refine wpQuiet_nil ?_
    intro W1 hx
    obtain ⟨x, hx⟩ := hx
    have hW1 := x.h
    rw [← hx] at hW1
    clear hx x y0 y1 y2 y3 y4 y5
    go_wp2
    go_ret
    exact ⟨by rw [HF.out]; first | rfl | (simp; done), (below_new w _).trans (hW1.mono (by simp))⟩
  by_cases p2 : ptB x4 x5 = true
  case neg =>
    have p2n : ptB x4 x5 = false := by simpa using p2
    clear p2
    have HF := Lib.hid (show vArc x0 x1 x2 x3 x4 x5 = false by unfold vArc; rw [p0, p1, p2n]; rfl)
    go_enter Try.func41, Try.ntmps41
    go_wp2
    have z0 : (w.alloc (.cells #[.int .i64 x0, .int .i64 x1, .int .i64 x2, .int .i64 x3, .int .i64 x4, .int .i64 x5] 43)).cell? ⟨w.heap.size, 0, none⟩ = some (.int .i64 x0) := by simp
    have z1 : (w.alloc (.cells #[.int .i64 x0, .int .i64 x1, .int .i64 x2, .int .i64 x3, .int .i64 x4, .int .i64 x5] 43)).cell? ⟨w.heap.size, 1, none⟩ = some (.int .i64 x1) := by simp
    have z2 : (w.alloc (.cells #[.int .i64 x0, .int .i64 x1, .int .i64 x2, .int .i64 x3, .int .i64 x4, .int .i64 x5] 43)).cell? ⟨w.heap.size, 2, none⟩ = some (.int .i64 x2) := by simp
    have z3 : (w.alloc (.cells #[.int .i64 x0, .int .i64 x1, .int .i64 x2, .int .i64 x3, .int .i64 x4, .int .i64 x5] 43)).cell? ⟨w.heap.size, 3, none⟩ = some (.int .i64 x3) := by simp
    have z4 : (w.alloc (.cells #[.int .i64 x0, .int .i64 x1, .int .i64 x2, .int .i64 x3, .int .i64 x4, .int .i64 x5] 43)).cell? ⟨w.heap.size, 4, none⟩ = some (.int .i64 x4) := by simp
    have z5 : (w.alloc (.cells #[.int .i64 x0, .int .i64 x1, .int .i64 x2, .int .i64 x3, .int .i64 x4, .int .i64 x5] 43)).cell? ⟨w.heap.size, 5, none⟩ = some (.int .i64 x5) := by simp
    have y0 := Ext.cell (W := (w.alloc (.cells #[.int .i64 x0, .int .i64 x1, .int .i64 x2, .int .i64 x3, .int .i64 x4, .int .i64 x5] 43))) (b := w.heap.size) (o := 0) (u := .int .i64 x0) z0 (by simp)
    have y1 := Ext.cell (W := (w.alloc (.cells #[.int .i64 x0, .int .i64 x1, .int .i64 x2, .int .i64 x3, .int .i64 x4, .int .i64 x5] 43))) (b := w.heap.size) (o := 1) (u := .int .i64 x1) z1 (by simp)
    have y2 := Ext.cell (W := (w.alloc (.cells #[.int .i64 x0, .int .i64 x1, .int .i64 x2, .int .i64 x3, .int .i64 x4, .int .i64 x5] 43))) (b := w.heap.size) (o := 2) (u := .int .i64 x2) z2 (by simp)
    have y3 := Ext.cell (W := (w.alloc (.cells #[.int .i64 x0, .int .i64 x1, .int .i64 x2, .int .i64 x3, .int .i64 x4, .int .i64 x5] 43))) (b := w.heap.size) (o := 3) (u := .int .i64 x3) z3 (by simp)
    have y4 := Ext.cell (W := (w.alloc (.cells #[.int .i64 x0, .int .i64 x1, .int .i64 x2, .int .i64 x3, .int .i64 x4, .int .i64 x5] 43))) (b := w.heap.size) (o := 4) (u := .int .i64 x4) z4 (by simp)
    have y5 := Ext.cell (W := (w.alloc (.cells #[.int .i64 x0, .int .i64 x1, .int .i64 x2, .int .i64 x3, .int .i64 x4, .int .i64 x5] 43))) (b := w.heap.size) (o := 5) (u := .int .i64 x5) z5 (by simp)
    refine wp_region_ext (by kernel_rfl) (by kernel_rfl) ?_
    repeat (go_big_quiet_step (first | (go_at_call 48; exact ext_call (calls_b (validPoint_any _ _ _) (by assumption))) | (go_at_call 32; exact ext_call (squared_any _ _ _ _ _))))
    refine wpQuiet_nil ?_
    intro W1 hx
    obtain ⟨x, hx⟩ := hx
    have hW1 := x.h
    rw [← hx] at hW1
    clear hx x y0 y1 y2 y3 y4 y5
    go_wp2
    go_ret
    exact ⟨by rw [HF.out]; first | rfl | (simp; done), (below_new w _).trans (hW1.mono (by simp))⟩
  by_cases en1 : x2 = x4
  case pos =>
    by_cases en2 : x3 = x5
    case pos =>
      have HF := Lib.hid (show vArc x0 x1 x2 x3 x4 x5 = false by unfold vArc; rw [p0, p1, p2, decide_eq_true en1, decide_eq_true en2]; rfl)
      subst en1 en2
      go_enter Try.func41, Try.ntmps41
      go_wp2
      have z0 : (w.alloc (.cells #[.int .i64 x0, .int .i64 x1, .int .i64 x2, .int .i64 x3, .int .i64 x2, .int .i64 x3] 43)).cell? ⟨w.heap.size, 0, none⟩ = some (.int .i64 x0) := by simp
      have z1 : (w.alloc (.cells #[.int .i64 x0, .int .i64 x1, .int .i64 x2, .int .i64 x3, .int .i64 x2, .int .i64 x3] 43)).cell? ⟨w.heap.size, 1, none⟩ = some (.int .i64 x1) := by simp
      have z2 : (w.alloc (.cells #[.int .i64 x0, .int .i64 x1, .int .i64 x2, .int .i64 x3, .int .i64 x2, .int .i64 x3] 43)).cell? ⟨w.heap.size, 2, none⟩ = some (.int .i64 x2) := by simp
      have z3 : (w.alloc (.cells #[.int .i64 x0, .int .i64 x1, .int .i64 x2, .int .i64 x3, .int .i64 x2, .int .i64 x3] 43)).cell? ⟨w.heap.size, 3, none⟩ = some (.int .i64 x3) := by simp
      have z4 : (w.alloc (.cells #[.int .i64 x0, .int .i64 x1, .int .i64 x2, .int .i64 x3, .int .i64 x2, .int .i64 x3] 43)).cell? ⟨w.heap.size, 4, none⟩ = some (.int .i64 x2) := by simp
      have z5 : (w.alloc (.cells #[.int .i64 x0, .int .i64 x1, .int .i64 x2, .int .i64 x3, .int .i64 x2, .int .i64 x3] 43)).cell? ⟨w.heap.size, 5, none⟩ = some (.int .i64 x3) := by simp
      have y0 := Ext.cell (W := (w.alloc (.cells #[.int .i64 x0, .int .i64 x1, .int .i64 x2, .int .i64 x3, .int .i64 x2, .int .i64 x3] 43))) (b := w.heap.size) (o := 0) (u := .int .i64 x0) z0 (by simp)
      have y1 := Ext.cell (W := (w.alloc (.cells #[.int .i64 x0, .int .i64 x1, .int .i64 x2, .int .i64 x3, .int .i64 x2, .int .i64 x3] 43))) (b := w.heap.size) (o := 1) (u := .int .i64 x1) z1 (by simp)
      have y2 := Ext.cell (W := (w.alloc (.cells #[.int .i64 x0, .int .i64 x1, .int .i64 x2, .int .i64 x3, .int .i64 x2, .int .i64 x3] 43))) (b := w.heap.size) (o := 2) (u := .int .i64 x2) z2 (by simp)
      have y3 := Ext.cell (W := (w.alloc (.cells #[.int .i64 x0, .int .i64 x1, .int .i64 x2, .int .i64 x3, .int .i64 x2, .int .i64 x3] 43))) (b := w.heap.size) (o := 3) (u := .int .i64 x3) z3 (by simp)
      have y4 := Ext.cell (W := (w.alloc (.cells #[.int .i64 x0, .int .i64 x1, .int .i64 x2, .int .i64 x3, .int .i64 x2, .int .i64 x3] 43))) (b := w.heap.size) (o := 4) (u := .int .i64 x2) z4 (by simp)
      have y5 := Ext.cell (W := (w.alloc (.cells #[.int .i64 x0, .int .i64 x1, .int .i64 x2, .int .i64 x3, .int .i64 x2, .int .i64 x3] 43))) (b := w.heap.size) (o := 5) (u := .int .i64 x3) z5 (by simp)
      refine wp_region_ext (by kernel_rfl) (by kernel_rfl) ?_
      repeat (go_big_quiet_step (first | (go_at_call 48; exact ext_call (calls_b (validPoint_any _ _ _) (by assumption))) | (go_at_call 32; exact ext_call (squared_any _ _ _ _ _))))
      refine wpQuiet_nil ?_
      intro W1 hx
      obtain ⟨x, hx⟩ := hx
      have hW1 := x.h
      rw [← hx] at hW1
      clear hx x y0 y1 y2 y3 y4 y5
      go_wp2
      go_ret
      exact ⟨by rw [HF.out]; first | rfl | (simp; done), (below_new w _).trans (hW1.mono (by simp))⟩
    have HF := Lib.hid (show vArc x0 x1 x2 x3 x4 x5 = decide (sqV x0 x1 x2 x3 = sqV x0 x1 x4 x5) by unfold vArc; rw [p0, p1, p2, decide_eq_false en2]; simp)
    subst en1
    have eb : (x3 == x5) = false := by simpa using en2
    go_enter Try.func41, Try.ntmps41
    go_wp2
    have z0 : (w.alloc (.cells #[.int .i64 x0, .int .i64 x1, .int .i64 x2, .int .i64 x3, .int .i64 x2, .int .i64 x5] 43)).cell? ⟨w.heap.size, 0, none⟩ = some (.int .i64 x0) := by simp
    have z1 : (w.alloc (.cells #[.int .i64 x0, .int .i64 x1, .int .i64 x2, .int .i64 x3, .int .i64 x2, .int .i64 x5] 43)).cell? ⟨w.heap.size, 1, none⟩ = some (.int .i64 x1) := by simp
    have z2 : (w.alloc (.cells #[.int .i64 x0, .int .i64 x1, .int .i64 x2, .int .i64 x3, .int .i64 x2, .int .i64 x5] 43)).cell? ⟨w.heap.size, 2, none⟩ = some (.int .i64 x2) := by simp
    have z3 : (w.alloc (.cells #[.int .i64 x0, .int .i64 x1, .int .i64 x2, .int .i64 x3, .int .i64 x2, .int .i64 x5] 43)).cell? ⟨w.heap.size, 3, none⟩ = some (.int .i64 x3) := by simp
    have z4 : (w.alloc (.cells #[.int .i64 x0, .int .i64 x1, .int .i64 x2, .int .i64 x3, .int .i64 x2, .int .i64 x5] 43)).cell? ⟨w.heap.size, 4, none⟩ = some (.int .i64 x2) := by simp
    have z5 : (w.alloc (.cells #[.int .i64 x0, .int .i64 x1, .int .i64 x2, .int .i64 x3, .int .i64 x2, .int .i64 x5] 43)).cell? ⟨w.heap.size, 5, none⟩ = some (.int .i64 x5) := by simp
    have y0 := Ext.cell (W := (w.alloc (.cells #[.int .i64 x0, .int .i64 x1, .int .i64 x2, .int .i64 x3, .int .i64 x2, .int .i64 x5] 43))) (b := w.heap.size) (o := 0) (u := .int .i64 x0) z0 (by simp)
    have y1 := Ext.cell (W := (w.alloc (.cells #[.int .i64 x0, .int .i64 x1, .int .i64 x2, .int .i64 x3, .int .i64 x2, .int .i64 x5] 43))) (b := w.heap.size) (o := 1) (u := .int .i64 x1) z1 (by simp)
    have y2 := Ext.cell (W := (w.alloc (.cells #[.int .i64 x0, .int .i64 x1, .int .i64 x2, .int .i64 x3, .int .i64 x2, .int .i64 x5] 43))) (b := w.heap.size) (o := 2) (u := .int .i64 x2) z2 (by simp)
    have y3 := Ext.cell (W := (w.alloc (.cells #[.int .i64 x0, .int .i64 x1, .int .i64 x2, .int .i64 x3, .int .i64 x2, .int .i64 x5] 43))) (b := w.heap.size) (o := 3) (u := .int .i64 x3) z3 (by simp)
    have y4 := Ext.cell (W := (w.alloc (.cells #[.int .i64 x0, .int .i64 x1, .int .i64 x2, .int .i64 x3, .int .i64 x2, .int .i64 x5] 43))) (b := w.heap.size) (o := 4) (u := .int .i64 x2) z4 (by simp)
    have y5 := Ext.cell (W := (w.alloc (.cells #[.int .i64 x0, .int .i64 x1, .int .i64 x2, .int .i64 x3, .int .i64 x2, .int .i64 x5] 43))) (b := w.heap.size) (o := 5) (u := .int .i64 x5) z5 (by simp)
    refine wp_region_ext (by kernel_rfl) (by kernel_rfl) ?_
    repeat (go_big_quiet_step (first | (go_at_call 48; exact ext_call (calls_b (validPoint_any _ _ _) (by assumption))) | (go_at_call 32; exact ext_call (squared_any _ _ _ _ _))))
    refine wpQuiet_nil ?_
    intro W1 hx
    obtain ⟨x, hx⟩ := hx
    have hW1 := x.h
    rw [← hx] at hW1
    clear hx x y0 y1 y2 y3 y4 y5
    go_wp2
    go_ret
    exact ⟨by rw [HF.out]; first | rfl | (simp; done), (below_new w _).trans (hW1.mono (by simp))⟩
  have HF := Lib.hid (show vArc x0 x1 x2 x3 x4 x5 = decide (sqV x0 x1 x2 x3 = sqV x0 x1 x4 x5) by unfold vArc; rw [p0, p1, p2, decide_eq_false en1]; rfl)
  have eb : (x2 == x4) = false := by simpa using en1
  go_enter Try.func41, Try.ntmps41
  go_wp2
  have z0 : (w.alloc (.cells #[.int .i64 x0, .int .i64 x1, .int .i64 x2, .int .i64 x3, .int .i64 x4, .int .i64 x5] 43)).cell? ⟨w.heap.size, 0, none⟩ = some (.int .i64 x0) := by simp
  have z1 : (w.alloc (.cells #[.int .i64 x0, .int .i64 x1, .int .i64 x2, .int .i64 x3, .int .i64 x4, .int .i64 x5] 43)).cell? ⟨w.heap.size, 1, none⟩ = some (.int .i64 x1) := by simp
  have z2 : (w.alloc (.cells #[.int .i64 x0, .int .i64 x1, .int .i64 x2, .int .i64 x3, .int .i64 x4, .int .i64 x5] 43)).cell? ⟨w.heap.size, 2, none⟩ = some (.int .i64 x2) := by simp
  have z3 : (w.alloc (.cells #[.int .i64 x0, .int .i64 x1, .int .i64 x2, .int .i64 x3, .int .i64 x4, .int .i64 x5] 43)).cell? ⟨w.heap.size, 3, none⟩ = some (.int .i64 x3) := by simp
  have z4 : (w.alloc (.cells #[.int .i64 x0, .int .i64 x1, .int .i64 x2, .int .i64 x3, .int .i64 x4, .int .i64 x5] 43)).cell? ⟨w.heap.size, 4, none⟩ = some (.int .i64 x4) := by simp
  have z5 : (w.alloc (.cells #[.int .i64 x0, .int .i64 x1, .int .i64 x2, .int .i64 x3, .int .i64 x4, .int .i64 x5] 43)).cell? ⟨w.heap.size, 5, none⟩ = some (.int .i64 x5) := by simp
  have y0 := Ext.cell (W := (w.alloc (.cells #[.int .i64 x0, .int .i64 x1, .int .i64 x2, .int .i64 x3, .int .i64 x4, .int .i64 x5] 43))) (b := w.heap.size) (o := 0) (u := .int .i64 x0) z0 (by simp)
  have y1 := Ext.cell (W := (w.alloc (.cells #[.int .i64 x0, .int .i64 x1, .int .i64 x2, .int .i64 x3, .int .i64 x4, .int .i64 x5] 43))) (b := w.heap.size) (o := 1) (u := .int .i64 x1) z1 (by simp)
  have y2 := Ext.cell (W := (w.alloc (.cells #[.int .i64 x0, .int .i64 x1, .int .i64 x2, .int .i64 x3, .int .i64 x4, .int .i64 x5] 43))) (b := w.heap.size) (o := 2) (u := .int .i64 x2) z2 (by simp)
  have y3 := Ext.cell (W := (w.alloc (.cells #[.int .i64 x0, .int .i64 x1, .int .i64 x2, .int .i64 x3, .int .i64 x4, .int .i64 x5] 43))) (b := w.heap.size) (o := 3) (u := .int .i64 x3) z3 (by simp)
  have y4 := Ext.cell (W := (w.alloc (.cells #[.int .i64 x0, .int .i64 x1, .int .i64 x2, .int .i64 x3, .int .i64 x4, .int .i64 x5] 43))) (b := w.heap.size) (o := 4) (u := .int .i64 x4) z4 (by simp)
  have y5 := Ext.cell (W := (w.alloc (.cells #[.int .i64 x0, .int .i64 x1, .int .i64 x2, .int .i64 x3, .int .i64 x4, .int .i64 x5] 43))) (b := w.heap.size) (o := 5) (u := .int .i64 x5) z5 (by simp)
  refine wp_region_ext (by kernel_rfl) (by kernel_rfl) ?_
  repeat (go_big_quiet_step (first | (go_at_call 48; exact ext_call (calls_b (validPoint_any _ _ _) (by assumption))) | (go_at_call 32; exact ext_call (squared_any _ _ _ _ _))))
  refine wpQuiet_nil ?_
  intro W1 hx
  obtain ⟨x, hx⟩ := hx
  have hW1 := x.h
  rw [← hx] at hW1
  clear hx x y0 y1 y2 y3 y4 y5
  go_wp2
  go_ret
  exact ⟨by rw [HF.out]; first | rfl | (simp; done), (below_new w _).trans (hW1.mono (by simp))⟩
end Go.Proofs.Ytnfdodgecbibjaa
