/- The contracts of an arc by its address, and of the arc behind one. -/
import Derived.Test.YtnfdodgecbibjaaArcV
namespace Go.Proofs.Ytnfdodgecbibjaa
open Go.RowKit
attribute [local go_sem ↓] Go.wp_at_zero Go.wp_at_succ
set_option linter.unusedVariables false

theorem Ext.row {W : World} {g m : Nat} {t : TypeId} {f : Nat → Value} (h : W.rowIs g t m f) (x : Ext W) : x.v.rowIs g t m f := row_below h x.h h.lt

set_option maxHeartbeats 4000000 in
theorem l05One_any (b o : Nat) (x0 : Int) (x1 : Int) (x2 : Int) (x3 : Int) (x4 : Int) (x5 : Int) (w : World) (h0 : w.cell? ⟨b, o, none⟩ = some (.int .i64 x0)) (h1 : w.cell? ⟨b, o + 1, none⟩ = some (.int .i64 x1)) (h2 : w.cell? ⟨b, o + 2, none⟩ = some (.int .i64 x2)) (h3 : w.cell? ⟨b, o + 3, none⟩ = some (.int .i64 x3)) (h4 : w.cell? ⟨b, o + 4, none⟩ = some (.int .i64 x4)) (h5 : w.cell? ⟨b, o + 5, none⟩ = some (.int .i64 x5)) (hbl : b < w.heap.size) :
    Calls Try.prog 39 #[.pointer (some ⟨b, o, none⟩)] w fun e w' => e = .returned (.bool (vArc x0 x1 x2 x3 x4 x5)) ∧ Below w.heap.size w w' := by
  by_cases p0 : ptB x0 x1 = true
  case neg =>
    have p0n : ptB x0 x1 = false := by simpa using p0
    clear p0
    have HF := Lib.hid (show vArc x0 x1 x2 x3 x4 x5 = false by unfold vArc; rw [p0n]; rfl)
    go_enter Try.func39, Try.ntmps39
    go_wp2
    have y0 := Ext.cell (W := w) (b := b) (o := o) (u := .int .i64 x0) h0 hbl
    have y1 := Ext.cell (W := w) (b := b) (o := o + 1) (u := .int .i64 x1) h1 hbl
    have y2 := Ext.cell (W := w) (b := b) (o := o + 2) (u := .int .i64 x2) h2 hbl
    have y3 := Ext.cell (W := w) (b := b) (o := o + 3) (u := .int .i64 x3) h3 hbl
    have y3b := Ext.cell (W := w) (b := b) (o := o + 2 + 1) (u := .int .i64 x3) h3 hbl
    have y4 := Ext.cell (W := w) (b := b) (o := o + 4) (u := .int .i64 x4) h4 hbl
    have y5 := Ext.cell (W := w) (b := b) (o := o + 5) (u := .int .i64 x5) h5 hbl
    have y5b := Ext.cell (W := w) (b := b) (o := o + 4 + 1) (u := .int .i64 x5) h5 hbl
    refine wp_region_ext (by kernel_rfl) (by kernel_rfl) ?_
    repeat (go_big_quiet_step ((go_at_call 47; exact ext_call (calls_b (l05Point_any _ _ _) (by assumption)))))
    refine wpQuiet_nil ?_
    intro W1 hx
    obtain ⟨x, hx⟩ := hx
    have hW1 := x.h
    rw [← hx] at hW1
    clear hx x y0 y1 y2 y3 y3b y4 y5 y5b
    go_wp2
    go_ret
    exact ⟨by rw [HF.out]; rfl, hW1⟩
  by_cases p1 : ptB x2 x3 = true
  case neg =>
    have p1n : ptB x2 x3 = false := by simpa using p1
    clear p1
    have HF := Lib.hid (show vArc x0 x1 x2 x3 x4 x5 = false by unfold vArc; rw [p0, p1n]; rfl)
    go_enter Try.func39, Try.ntmps39
    go_wp2
    have y0 := Ext.cell (W := w) (b := b) (o := o) (u := .int .i64 x0) h0 hbl
    have y1 := Ext.cell (W := w) (b := b) (o := o + 1) (u := .int .i64 x1) h1 hbl
    have y2 := Ext.cell (W := w) (b := b) (o := o + 2) (u := .int .i64 x2) h2 hbl
    have y3 := Ext.cell (W := w) (b := b) (o := o + 3) (u := .int .i64 x3) h3 hbl
    have y3b := Ext.cell (W := w) (b := b) (o := o + 2 + 1) (u := .int .i64 x3) h3 hbl
    have y4 := Ext.cell (W := w) (b := b) (o := o + 4) (u := .int .i64 x4) h4 hbl
    have y5 := Ext.cell (W := w) (b := b) (o := o + 5) (u := .int .i64 x5) h5 hbl
    have y5b := Ext.cell (W := w) (b := b) (o := o + 4 + 1) (u := .int .i64 x5) h5 hbl
    refine wp_region_ext (by kernel_rfl) (by kernel_rfl) ?_
    repeat (go_big_quiet_step ((go_at_call 47; exact ext_call (calls_b (l05Point_any _ _ _) (by assumption)))))
    refine wpQuiet_nil ?_
    intro W1 hx
    obtain ⟨x, hx⟩ := hx
    have hW1 := x.h
    rw [← hx] at hW1
    clear hx x y0 y1 y2 y3 y3b y4 y5 y5b
    go_wp2
    go_ret
    exact ⟨by rw [HF.out]; rfl, hW1⟩
  by_cases p2 : ptB x4 x5 = true
  case neg =>
    have p2n : ptB x4 x5 = false := by simpa using p2
    clear p2
    have HF := Lib.hid (show vArc x0 x1 x2 x3 x4 x5 = false by unfold vArc; rw [p0, p1, p2n]; rfl)
    go_enter Try.func39, Try.ntmps39
    go_wp2
    have y0 := Ext.cell (W := w) (b := b) (o := o) (u := .int .i64 x0) h0 hbl
    have y1 := Ext.cell (W := w) (b := b) (o := o + 1) (u := .int .i64 x1) h1 hbl
    have y2 := Ext.cell (W := w) (b := b) (o := o + 2) (u := .int .i64 x2) h2 hbl
    have y3 := Ext.cell (W := w) (b := b) (o := o + 3) (u := .int .i64 x3) h3 hbl
    have y3b := Ext.cell (W := w) (b := b) (o := o + 2 + 1) (u := .int .i64 x3) h3 hbl
    have y4 := Ext.cell (W := w) (b := b) (o := o + 4) (u := .int .i64 x4) h4 hbl
    have y5 := Ext.cell (W := w) (b := b) (o := o + 5) (u := .int .i64 x5) h5 hbl
    have y5b := Ext.cell (W := w) (b := b) (o := o + 4 + 1) (u := .int .i64 x5) h5 hbl
    refine wp_region_ext (by kernel_rfl) (by kernel_rfl) ?_
    repeat (go_big_quiet_step ((go_at_call 47; exact ext_call (calls_b (l05Point_any _ _ _) (by assumption)))))
    refine wpQuiet_nil ?_
    intro W1 hx
    obtain ⟨x, hx⟩ := hx
    have hW1 := x.h
    rw [← hx] at hW1
    clear hx x y0 y1 y2 y3 y3b y4 y5 y5b
    go_wp2
    go_ret
    exact ⟨by rw [HF.out]; rfl, hW1⟩
  by_cases en1 : x2 = x4
  case pos =>
    by_cases en2 : x3 = x5
    case pos =>
      have HF := Lib.hid (show vArc x0 x1 x2 x3 x4 x5 = false by unfold vArc; rw [p0, p1, p2, decide_eq_true en1, decide_eq_true en2]; rfl)
      subst en1 en2
      go_enter Try.func39, Try.ntmps39
      go_wp2
      have y0 := Ext.cell (W := w) (b := b) (o := o) (u := .int .i64 x0) h0 hbl
      have y1 := Ext.cell (W := w) (b := b) (o := o + 1) (u := .int .i64 x1) h1 hbl
      have y2 := Ext.cell (W := w) (b := b) (o := o + 2) (u := .int .i64 x2) h2 hbl
      have y3 := Ext.cell (W := w) (b := b) (o := o + 3) (u := .int .i64 x3) h3 hbl
      have y3b := Ext.cell (W := w) (b := b) (o := o + 2 + 1) (u := .int .i64 x3) h3 hbl
      have y4 := Ext.cell (W := w) (b := b) (o := o + 4) (u := .int .i64 x2) h4 hbl
      have y5 := Ext.cell (W := w) (b := b) (o := o + 5) (u := .int .i64 x3) h5 hbl
      have y5b := Ext.cell (W := w) (b := b) (o := o + 4 + 1) (u := .int .i64 x3) h5 hbl
      refine wp_region_ext (by kernel_rfl) (by kernel_rfl) ?_
      repeat (go_big_quiet_step ((go_at_call 47; exact ext_call (calls_b (l05Point_any _ _ _) (by assumption)))))
      refine wpQuiet_nil ?_
      intro W1 hx
      obtain ⟨x, hx⟩ := hx
      have hW1 := x.h
      rw [← hx] at hW1
      clear hx x y0 y1 y2 y3 y3b y4 y5 y5b
      go_wp2
      go_ret
      exact ⟨by rw [HF.out]; rfl, hW1⟩
    have HF := Lib.hid (show vArc x0 x1 x2 x3 x4 x5 = decide (sqV x0 x1 x2 x3 = sqV x0 x1 x4 x5) by unfold vArc; rw [p0, p1, p2, decide_eq_false en2]; simp)
    subst en1
    have eb : (x3 == x5) = false := by simpa using en2
    go_enter Try.func39, Try.ntmps39
    go_wp2
    have y0 := Ext.cell (W := w) (b := b) (o := o) (u := .int .i64 x0) h0 hbl
    have y1 := Ext.cell (W := w) (b := b) (o := o + 1) (u := .int .i64 x1) h1 hbl
    have y2 := Ext.cell (W := w) (b := b) (o := o + 2) (u := .int .i64 x2) h2 hbl
    have y3 := Ext.cell (W := w) (b := b) (o := o + 3) (u := .int .i64 x3) h3 hbl
    have y3b := Ext.cell (W := w) (b := b) (o := o + 2 + 1) (u := .int .i64 x3) h3 hbl
    have y4 := Ext.cell (W := w) (b := b) (o := o + 4) (u := .int .i64 x2) h4 hbl
    have y5 := Ext.cell (W := w) (b := b) (o := o + 5) (u := .int .i64 x5) h5 hbl
    have y5b := Ext.cell (W := w) (b := b) (o := o + 4 + 1) (u := .int .i64 x5) h5 hbl
    refine wp_region_ext (by kernel_rfl) (by kernel_rfl) ?_
    repeat (go_big_quiet_step ((go_at_call 47; exact ext_call (calls_b (l05Point_any _ _ _) (by assumption)))))
    refine wpQuiet_nil ?_
    intro W1 hx
    obtain ⟨x, hx⟩ := hx
    have hW1 := x.h
    rw [← hx] at hW1
    clear hx x y0 y1 y2 y3 y3b y4 y5 y5b
    have hb1 : b < W1.heap.size := Nat.lt_of_lt_of_le hbl hW1.size
    have z0 := (bcell hW1 _ _ hbl).trans h0
    have z1 := (bcell hW1 _ _ hbl).trans h1
    have z2 := (bcell hW1 _ _ hbl).trans h2
    have z3 := (bcell hW1 _ _ hbl).trans h3
    have z4 := (bcell hW1 _ _ hbl).trans h4
    have z5 := (bcell hW1 _ _ hbl).trans h5
    go_wp2
    have y0 := Ext.cell (W := W1) (b := b) (o := o) (u := .int .i64 x0) z0 hb1
    have y1 := Ext.cell (W := W1) (b := b) (o := o + 1) (u := .int .i64 x1) z1 hb1
    have y2 := Ext.cell (W := W1) (b := b) (o := o + 2) (u := .int .i64 x2) z2 hb1
    have y3 := Ext.cell (W := W1) (b := b) (o := o + 3) (u := .int .i64 x3) z3 hb1
    have y3b := Ext.cell (W := W1) (b := b) (o := o + 2 + 1) (u := .int .i64 x3) z3 hb1
    have y4 := Ext.cell (W := W1) (b := b) (o := o + 4) (u := .int .i64 x2) z4 hb1
    have y5 := Ext.cell (W := W1) (b := b) (o := o + 5) (u := .int .i64 x5) z5 hb1
    have y5b := Ext.cell (W := W1) (b := b) (o := o + 4 + 1) (u := .int .i64 x5) z5 hb1
    refine wp_region_ext (by kernel_rfl) (by kernel_rfl) ?_
    repeat (go_big_quiet_step ((go_at_call 31; exact ext_call (l05Square_any _ _ _ _ _))))
    refine wpQuiet_nil ?_
    intro W2 hx
    obtain ⟨x, hx⟩ := hx
    have hW2 := x.h
    rw [← hx] at hW2
    clear hx x y0 y1 y2 y3 y3b y4 y5 y5b
    go_wp2
    go_ret
    exact ⟨by rw [HF.out]; first | rfl | (simp; done), hW1.trans (hW2.mono hW1.size)⟩
  have HF := Lib.hid (show vArc x0 x1 x2 x3 x4 x5 = decide (sqV x0 x1 x2 x3 = sqV x0 x1 x4 x5) by unfold vArc; rw [p0, p1, p2, decide_eq_false en1]; rfl)
  have eb : (x2 == x4) = false := by simpa using en1
  go_enter Try.func39, Try.ntmps39
  go_wp2
  have y0 := Ext.cell (W := w) (b := b) (o := o) (u := .int .i64 x0) h0 hbl
  have y1 := Ext.cell (W := w) (b := b) (o := o + 1) (u := .int .i64 x1) h1 hbl
  have y2 := Ext.cell (W := w) (b := b) (o := o + 2) (u := .int .i64 x2) h2 hbl
  have y3 := Ext.cell (W := w) (b := b) (o := o + 3) (u := .int .i64 x3) h3 hbl
  have y3b := Ext.cell (W := w) (b := b) (o := o + 2 + 1) (u := .int .i64 x3) h3 hbl
  have y4 := Ext.cell (W := w) (b := b) (o := o + 4) (u := .int .i64 x4) h4 hbl
  have y5 := Ext.cell (W := w) (b := b) (o := o + 5) (u := .int .i64 x5) h5 hbl
  have y5b := Ext.cell (W := w) (b := b) (o := o + 4 + 1) (u := .int .i64 x5) h5 hbl
  refine wp_region_ext (by kernel_rfl) (by kernel_rfl) ?_
  repeat (go_big_quiet_step ((go_at_call 47; exact ext_call (calls_b (l05Point_any _ _ _) (by assumption)))))
  refine wpQuiet_nil ?_
  intro W1 hx
  obtain ⟨x, hx⟩ := hx
  have hW1 := x.h
  rw [← hx] at hW1
  clear hx x y0 y1 y2 y3 y3b y4 y5 y5b
  have hb1 : b < W1.heap.size := Nat.lt_of_lt_of_le hbl hW1.size
  have z0 := (bcell hW1 _ _ hbl).trans h0
  have z1 := (bcell hW1 _ _ hbl).trans h1
  have z2 := (bcell hW1 _ _ hbl).trans h2
  have z3 := (bcell hW1 _ _ hbl).trans h3
  have z4 := (bcell hW1 _ _ hbl).trans h4
  have z5 := (bcell hW1 _ _ hbl).trans h5
  go_wp2
  have y0 := Ext.cell (W := W1) (b := b) (o := o) (u := .int .i64 x0) z0 hb1
  have y1 := Ext.cell (W := W1) (b := b) (o := o + 1) (u := .int .i64 x1) z1 hb1
  have y2 := Ext.cell (W := W1) (b := b) (o := o + 2) (u := .int .i64 x2) z2 hb1
  have y3 := Ext.cell (W := W1) (b := b) (o := o + 3) (u := .int .i64 x3) z3 hb1
  have y3b := Ext.cell (W := W1) (b := b) (o := o + 2 + 1) (u := .int .i64 x3) z3 hb1
  have y4 := Ext.cell (W := W1) (b := b) (o := o + 4) (u := .int .i64 x4) z4 hb1
  have y5 := Ext.cell (W := W1) (b := b) (o := o + 5) (u := .int .i64 x5) z5 hb1
  have y5b := Ext.cell (W := W1) (b := b) (o := o + 4 + 1) (u := .int .i64 x5) z5 hb1
  refine wp_region_ext (by kernel_rfl) (by kernel_rfl) ?_
  repeat (go_big_quiet_step ((go_at_call 31; exact ext_call (l05Square_any _ _ _ _ _))))
  refine wpQuiet_nil ?_
  intro W2 hx
  obtain ⟨x, hx⟩ := hx
  have hW2 := x.h
  rw [← hx] at hW2
  clear hx x y0 y1 y2 y3 y3b y4 y5 y5b
  go_wp2
  go_ret
  exact ⟨by rw [HF.out]; first | rfl | (simp; done), hW1.trans (hW2.mono hW1.size)⟩

set_option maxHeartbeats 2000000 in
theorem next_any (g n k j : Nat) (F0 : Nat → Int) (F1 : Nat → Int) (F2 : Nat → Int) (F3 : Nat → Int) (F4 : Nat → Int) (F5 : Nat → Int) (w : World) (t1 : TypeId) (hn : n ≤ 1048576) (hk : k < n) (hj : j < n) (hm : ((k : Int) + 1) % (n : Int) = (j : Int)) (h1 : w.rowIs g t1 (n * 6) (flat 6 (rowArc F0 F1 F2 F3 F4 F5))) :
    Calls Try.prog 42 #[.slice (some ⟨g, 0, none⟩) n n, .int .i64 k] w fun e w' => e = .returned (.agg #[.int .i64 (F0 j), .int .i64 (F1 j), .int .i64 (F2 j), .int .i64 (F3 j), .int .i64 (F4 j), .int .i64 (F5 j)]) ∧ Below w.heap.size w w' := by
  have hl1 := h1.lt
  obtain ⟨c0, c1, c2, c3, c4, c5⟩ := RdArc.of_row h1 j hj
  simp only [Nat.zero_add] at c0 c1 c2 c3 c4 c5
  clear h1
  have hn0 : (0 : Int) < (n : Int) := by omega
  have hk0 : (0 : Int) ≤ (k : Int) := by omega
  have hj0 : (0 : Int) ≤ (j : Int) := by omega
  have hj1 : (j : Int) < (n : Int) := by omega
  go_enter Try.func42, Try.ntmps42
  go_wp2
  exact bodyPost_ret (v := .agg #[.int .i64 (F0 j), .int .i64 (F1 j), .int .i64 (F2 j), .int .i64 (F3 j), .int .i64 (F4 j), .int .i64 (F5 j)]) (by simp [results, Try.results42, go_sem]) rfl ⟨rfl, by repeat (first | exact below_new _ _ | exact (below_new _ _).alloc (by simp) _ | refine Below.setCell ?_ (by simp) _)⟩
end Go.Proofs.Ytnfdodgecbibjaa
