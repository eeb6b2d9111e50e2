/- The contracts of the helpers of the type Arc: the measure of size, the copy, the comparison of a copy with a copy. -/
import Derived.Test.YtnfdodgecbibjaaSmall
import Derived.Deep.RegionHeld3
import Derived.Deep.DrawnRows
namespace Go.Proofs.Ytnfdodgecbibjaa
open Go.RowKit
attribute [local go_sem ↓] Go.wp_at_zero Go.wp_at_succ
set_option maxRecDepth 10000
/-- The cells of a row of Arcs. -/
def rowArc (F0 : Nat → Int) (F1 : Nat → Int) (F2 : Nat → Int) (F3 : Nat → Int) (F4 : Nat → Int) (F5 : Nat → Int) (i j : Nat) : Value := match j with | 0 => .int .i64 (F0 i) | 1 => .int .i64 (F1 i) | 2 => .int .i64 (F2 i) | 3 => .int .i64 (F3 i) | 4 => .int .i64 (F4 i) | _ => .int .i64 (F5 i)

/-- A slice of Arcs that can be read. -/
def RdArc (w : World) (b off n : Nat) (F0 : Nat → Int) (F1 : Nat → Int) (F2 : Nat → Int) (F3 : Nat → Int) (F4 : Nat → Int) (F5 : Nat → Int) : Prop := ∀ i, i < n → w.cell? ⟨b, off + i * 6, none⟩ = some (.int .i64 (F0 i)) ∧ w.cell? ⟨b, off + i * 6 + 1, none⟩ = some (.int .i64 (F1 i)) ∧ w.cell? ⟨b, off + i * 6 + 2, none⟩ = some (.int .i64 (F2 i)) ∧ w.cell? ⟨b, off + i * 6 + 3, none⟩ = some (.int .i64 (F3 i)) ∧ w.cell? ⟨b, off + i * 6 + 4, none⟩ = some (.int .i64 (F4 i)) ∧ w.cell? ⟨b, off + i * 6 + 5, none⟩ = some (.int .i64 (F5 i))

theorem RdArc.of_row {w : World} {g n : Nat} {t : TypeId} {F0 : Nat → Int} {F1 : Nat → Int} {F2 : Nat → Int} {F3 : Nat → Int} {F4 : Nat → Int} {F5 : Nat → Int} (h : w.rowIs g t (n * 6) (flat 6 (rowArc F0 F1 F2 F3 F4 F5))) : RdArc w g 0 n F0 F1 F2 F3 F4 F5 := by
  intro i hi
  refine ⟨?_, ?_, ?_, ?_, ?_, ?_⟩
  · have e := h.cell (i := i * 6) (by omega); rw [flat_at0 _ _ _ (by omega)] at e; simpa [rowArc] using e
  · have e := h.cell (i := i * 6 + 1) (by omega); rw [flat_at _ _ _ _ (by omega)] at e; simpa [rowArc] using e
  · have e := h.cell (i := i * 6 + 2) (by omega); rw [flat_at _ _ _ _ (by omega)] at e; simpa [rowArc] using e
  · have e := h.cell (i := i * 6 + 3) (by omega); rw [flat_at _ _ _ _ (by omega)] at e; simpa [rowArc] using e
  · have e := h.cell (i := i * 6 + 4) (by omega); rw [flat_at _ _ _ _ (by omega)] at e; simpa [rowArc] using e
  · have e := h.cell (i := i * 6 + 5) (by omega); rw [flat_at _ _ _ _ (by omega)] at e; simpa [rowArc] using e

set_option maxHeartbeats 400000 in
theorem szArcS_any (a : Option Addr) (n c : Nat) (w : World) (hn : n ≤ maxLen) :
    Calls Try.prog 8 #[.slice a n c, .int .i64 1048576] w (SzPost n w) := by
  unfold maxLen at hn
  by_cases h0 : n ≤ 1048576
  · go_enter Try.func8, Try.ntmps8
    go_wp2
    go_ret
    exact ⟨_, .inr ⟨by omega, by omega, h0⟩, rfl, Below.refl _ _⟩
  · go_enter Try.func8, Try.ntmps8
    go_wp2
    go_ret
    exact ⟨-1, .inl (by decide), rfl, Below.refl _ _⟩

set_option maxHeartbeats 400000 in
theorem toPoint_any (x0 : Int) (x1 : Int) (w : World) :
    Calls Try.prog 40 #[.agg #[.int .i64 x0, .int .i64 x1]] w fun e w' => e = .returned (.agg #[.int .i64 x0, .int .i64 x1]) ∧ ((w.alloc (.cells #[.int .i64 x0, .int .i64 x1] 45)).alloc (.cells #[.int .i64 x0, .int .i64 x1] 41)).alloc (.cells #[.int .i64 x0, .int .i64 x1] 41) = w' := by
  go_enter Try.func40, Try.ntmps40
  go_wp2
  exact bodyPost_ret (v := .agg #[.int .i64 x0, .int .i64 x1]) (by simp [results, Try.results40, go_sem]) rfl ⟨rfl, rfl⟩

set_option maxHeartbeats 2000000 in
theorem toArc_any (x0 : Int) (x1 : Int) (x2 : Int) (x3 : Int) (x4 : Int) (x5 : Int) (w : World) :
    Calls Try.prog 28 #[.agg #[.int .i64 x0, .int .i64 x1, .int .i64 x2, .int .i64 x3, .int .i64 x4, .int .i64 x5]] w fun e w' => e = .returned (.agg #[.int .i64 x0, .int .i64 x1, .int .i64 x2, .int .i64 x3, .int .i64 x4, .int .i64 x5]) ∧ Below w.heap.size w w' := by
  go_enter Try.func28, Try.ntmps28
  go_wp2_with (go_at_call 40; refine (toPoint_any _ _ _).mono ?_; rintro e w' ⟨rfl, rfl⟩)
  exact bodyPost_ret (v := .agg #[.int .i64 x0, .int .i64 x1, .int .i64 x2, .int .i64 x3, .int .i64 x4, .int .i64 x5]) (by simp [results, Try.results28, go_sem]) rfl ⟨rfl, by repeat (first | exact Below.refl _ _ | refine Below.alloc ?_ (by simp; try omega) _ | refine Below.setCell ?_ (by simp; try omega) _)⟩

theorem infoArc : (Try.prog.info? 43).map (fun i => (i.zero, i.size, i.bytes)) = some (some (.agg #[.int .i64 0, .int .i64 0, .int .i64 0, .int .i64 0, .int .i64 0, .int .i64 0]), 6, 48) := by kernel_rfl

/-- What the copy of a slice hands back. -/
def ToArcPost (n : Nat) (F0 : Nat → Int) (F1 : Nat → Int) (F2 : Nat → Int) (F3 : Nat → Int) (F4 : Nat → Int) (F5 : Nat → Int) (w : World) (e : Ending) (w' : World) : Prop := e = .returned (.slice (some ⟨w.heap.size, 0, none⟩) n n) ∧ w'.rowIs w.heap.size 43 (n * 6) (flat 6 (rowArc F0 F1 F2 F3 F4 F5)) ∧ Below w.heap.size w w'

set_option maxHeartbeats 1000000 in
theorem toArcS_any (b off n c : Nat) (F0 : Nat → Int) (F1 : Nat → Int) (F2 : Nat → Int) (F3 : Nat → Int) (F4 : Nat → Int) (F5 : Nat → Int) (w : World) (hb : b < w.heap.size) (hn : n ≤ 1048576) (hr : RdArc w b off n F0 F1 F2 F3 F4 F5) :
    Calls Try.prog 10 #[.slice (some ⟨b, off, none⟩) n c] w (ToArcPost n F0 F1 F2 F3 F4 F5 w) := by
  have HR := Lib.hid hr
  clear hr
  obtain ⟨i0, hi, hz0, hz1, hz2⟩ := info_parts infoArc
  have hmk := fun W => run_make_rowN (P := Try.prog) 26 43 i0 _ Try.underlying26 hi hz0 .i64 .i64 n n (Nat.le_refl _) (by rw [hz2]; omega) (by omega) W
  rw [hz1] at hmk
  clear hi hz0 hz1 hz2
  go_enter Try.func10, Try.ntmps10
  go_wp2
  clear hmk
  go_loopw [4] (fun i wr => ∃ (k : Nat), k ≤ n ∧ i = .int .i64 k ∧ Below w.heap.size w wr ∧ Part wr w.heap.size 43 (n * 6) (k * 6) (flat 6 (rowArc F0 F1 F2 F3 F4 F5))) (fun i _ => n - (intOf i).toNat)
  case atStart => exact ⟨0, Nat.zero_le _, rfl, below_new _ _, (Part.made w _ _ _ _).upto (by omega)⟩
  case round =>
    obtain ⟨k, hk, rfl, hbel, hpart⟩ := hrel
    by_cases hlt : k < n
    · obtain ⟨c0, c1, c2, c3, c4, c5⟩ := HR.out k hlt
      have hbc := bcell hbel
      rw [← hbc _ _ hb] at c0 c1 c2 c3 c4 c5
      clear hbc
      have hgl := hpart.lt
      have HP := Lib.hid hpart
      clear hpart
      go_wp2_with fail
      refine (toArc_any _ _ _ _ _ _ _).mono ?_
      rintro e w1 ⟨rfl, hB⟩
      have hP1 := HP.out.below hB hgl
      have hb1 := hbel.trans (hB.mono hbel.size)
      have hS1 := hB.size
      clear c0 c1 c2 c3 c4 c5 HP hbel
      obtain ⟨v0, d0⟩ := hP1.cell (i := k * 6) (by omega)
      obtain ⟨v1, d1⟩ := hP1.cell (i := k * 6 + 1) (by omega)
      obtain ⟨v2, d2⟩ := hP1.cell (i := k * 6 + 2) (by omega)
      obtain ⟨v3, d3⟩ := hP1.cell (i := k * 6 + 3) (by omega)
      obtain ⟨v4, d4⟩ := hP1.cell (i := k * 6 + 4) (by omega)
      obtain ⟨v5, d5⟩ := hP1.cell (i := k * 6 + 5) (by omega)
      have f0 := hP1.frozen (k * 6)
      have f1 := hP1.frozen (k * 6 + 1)
      have f2 := hP1.frozen (k * 6 + 2)
      have f3 := hP1.frozen (k * 6 + 3)
      have f4 := hP1.frozen (k * 6 + 4)
      have f5 := hP1.frozen (k * 6 + 5)
      have HP := Lib.hid hP1
      clear hP1 hB
      go_wp2
      go_roundw
      case rel => exact ⟨k + 1, by omega, by go_num, ((((((hb1.setCell (by simp) _).setCell (by simp) _).setCell (by simp) _).setCell (by simp) _).setCell (by simp) _).setCell (by simp) _), ((((((HP.out.put (j := k * 6) (by omega) (v := .int .i64 (F0 k)) (by rw [show k * 6 = k * 6 from rfl]; exact flat_at0 _ _ _ (by omega))).put (j := k * 6 + 1) (by omega) (v := .int .i64 (F1 k)) (by rw [show k * 6 + 1 = k * 6 + 1 from rfl]; exact flat_at _ _ _ _ (by omega))).put (j := k * 6 + 2) (by omega) (v := .int .i64 (F2 k)) (by rw [show k * 6 + 1 + 1 = k * 6 + 2 from rfl]; exact flat_at _ _ _ _ (by omega))).put (j := k * 6 + 3) (by omega) (v := .int .i64 (F3 k)) (by rw [show k * 6 + 1 + 1 + 1 = k * 6 + 3 from rfl]; exact flat_at _ _ _ _ (by omega))).put (j := k * 6 + 4) (by omega) (v := .int .i64 (F4 k)) (by rw [show k * 6 + 1 + 1 + 1 + 1 = k * 6 + 4 from rfl]; exact flat_at _ _ _ _ (by omega))).put (j := k * 6 + 5) (by omega) (v := .int .i64 (F5 k)) (by rw [show k * 6 + 1 + 1 + 1 + 1 + 1 = k * 6 + 5 from rfl]; exact flat_at _ _ _ _ (by omega))).upto (by omega)⟩
      case measure => simp [intOf]; omega
    · obtain rfl : k = n := by omega
      go_wp2
      go_ret
      exact ⟨rfl, hpart.whole, hbel⟩

set_option maxHeartbeats 400000 in
theorem toArcS_nil (ad : Option Addr) (c : Nat) (F0 : Nat → Int) (F1 : Nat → Int) (F2 : Nat → Int) (F3 : Nat → Int) (F4 : Nat → Int) (F5 : Nat → Int) (w : World) :
    Calls Try.prog 10 #[.slice ad 0 c] w (ToArcPost 0 F0 F1 F2 F3 F4 F5 w) := by
  have hmk : ∀ W : World, (Instr.makeSlice 26 (.int .i64 0) (.int .i64 0)).run Try.prog W = .ok (.slice (some ⟨W.heap.size, 0, none⟩) 0 0) (W.alloc (.cells #[] 43)) := fun _ => by kernel_rfl
  go_enter Try.func10, Try.ntmps10
  go_wp2
  clear hmk
  go_loopw [4] (fun i wr => i = .int .i64 0 ∧ wr = w.alloc (.cells #[] 43)) (fun _ _ => 0)
  case atStart => exact ⟨rfl, rfl⟩
  case round =>
    obtain ⟨rfl, rfl⟩ := hrel
    go_wp2
    go_ret
    exact ⟨rfl, by simpa using World.rowIs_alloc w #[] 43 _ (fun i hi => absurd hi (by simp)), below_new _ _⟩

set_option maxHeartbeats 400000 in
theorem eqPoint_any (x0 : Int) (x1 : Int) (w : World) :
    Calls Try.prog 44 #[.agg #[.int .i64 x0, .int .i64 x1], .agg #[.int .i64 x0, .int .i64 x1]] w fun e w' => e = .returned (.bool true) ∧ (w.alloc (.cells #[.int .i64 x0, .int .i64 x1] 41)).alloc (.cells #[.int .i64 x0, .int .i64 x1] 41) = w' := by
  go_enter Try.func44, Try.ntmps44
  go_wp2
  go_ret
  exact ⟨rfl, rfl⟩

set_option maxHeartbeats 2000000 in
theorem eqArc_any (x0 : Int) (x1 : Int) (x2 : Int) (x3 : Int) (x4 : Int) (x5 : Int) (w : World) :
    Calls Try.prog 30 #[.agg #[.int .i64 x0, .int .i64 x1, .int .i64 x2, .int .i64 x3, .int .i64 x4, .int .i64 x5], .agg #[.int .i64 x0, .int .i64 x1, .int .i64 x2, .int .i64 x3, .int .i64 x4, .int .i64 x5]] w fun e w' => e = .returned (.bool true) ∧ Below w.heap.size w w' := by
  go_enter Try.func30, Try.ntmps30
  go_wp2_with (go_at_call 44; refine (eqPoint_any _ _ _).mono ?_; rintro e w' ⟨rfl, rfl⟩)
  go_ret
  exact ⟨rfl, by repeat (first | exact Below.refl _ _ | refine Below.alloc ?_ (by simp; try omega) _ | refine Below.setCell ?_ (by simp; try omega) _)⟩

set_option maxHeartbeats 1000000 in
theorem eqArcS_any (g1 g2 n : Nat) (F0 : Nat → Int) (F1 : Nat → Int) (F2 : Nat → Int) (F3 : Nat → Int) (F4 : Nat → Int) (F5 : Nat → Int) (w : World) (t1 t2 : TypeId) (hn : n ≤ 1048576) (h1 : w.rowIs g1 t1 (n * 6) (flat 6 (rowArc F0 F1 F2 F3 F4 F5))) (h2 : w.rowIs g2 t2 (n * 6) (flat 6 (rowArc F0 F1 F2 F3 F4 F5))) :
    Calls Try.prog 12 #[.slice (some ⟨g1, 0, none⟩) n n, .slice (some ⟨g2, 0, none⟩) n n] w fun e w' => e = .returned (.bool true) ∧ Below w.heap.size w w' := by
  have hl1 := h1.lt
  have hl2 := h2.lt
  have HR1 := Lib.hid (RdArc.of_row h1)
  have HR2 := Lib.hid (RdArc.of_row h2)
  clear h1 h2
  go_enter Try.func12, Try.ntmps12
  go_wp2
  go_loopw [5] (fun i wr => ∃ (k : Nat), k ≤ n ∧ i = .int .i64 k ∧ Below w.heap.size w wr) (fun i _ => n - (intOf i).toNat)
  case atStart => exact ⟨0, Nat.zero_le _, rfl, Below.refl _ _⟩
  case round =>
    obtain ⟨k, hk, rfl, hbel⟩ := hrel
    by_cases hlt : k < n
    · have hlti : (k : Int) < (n : Int) := by omega
      have hki : (0 : Int) ≤ (k : Int) := by omega
      obtain ⟨c0, c1, c2, c3, c4, c5⟩ := HR1.out k hlt
      obtain ⟨d0, d1, d2, d3, d4, d5⟩ := HR2.out k hlt
      have hbc := bcell hbel
      rw [← hbc _ _ hl1] at c0 c1 c2 c3 c4 c5
      rw [← hbc _ _ hl2] at d0 d1 d2 d3 d4 d5
      simp only [Nat.zero_add] at c0 c1 c2 c3 c4 c5 d0 d1 d2 d3 d4 d5
      clear hbc
      go_wp2
      have hg1 : g1 < wr.heap.size := Nat.lt_of_lt_of_le hl1 hbel.size
      have cy0 := Ext.cell (W := wr) (b := g1) (o := k * 6) (u := .int .i64 (F0 k)) c0 hg1
      have cy1 := Ext.cell (W := wr) (b := g1) (o := k * 6 + 1) (u := .int .i64 (F1 k)) c1 hg1
      have cy2 := Ext.cell (W := wr) (b := g1) (o := k * 6 + 2) (u := .int .i64 (F2 k)) c2 hg1
      have cy3 := Ext.cell (W := wr) (b := g1) (o := k * 6 + 3) (u := .int .i64 (F3 k)) c3 hg1
      have cy4 := Ext.cell (W := wr) (b := g1) (o := k * 6 + 4) (u := .int .i64 (F4 k)) c4 hg1
      have cy5 := Ext.cell (W := wr) (b := g1) (o := k * 6 + 5) (u := .int .i64 (F5 k)) c5 hg1
      have hg2 : g2 < wr.heap.size := Nat.lt_of_lt_of_le hl2 hbel.size
      have dy0 := Ext.cell (W := wr) (b := g2) (o := k * 6) (u := .int .i64 (F0 k)) d0 hg2
      have dy1 := Ext.cell (W := wr) (b := g2) (o := k * 6 + 1) (u := .int .i64 (F1 k)) d1 hg2
      have dy2 := Ext.cell (W := wr) (b := g2) (o := k * 6 + 2) (u := .int .i64 (F2 k)) d2 hg2
      have dy3 := Ext.cell (W := wr) (b := g2) (o := k * 6 + 3) (u := .int .i64 (F3 k)) d3 hg2
      have dy4 := Ext.cell (W := wr) (b := g2) (o := k * 6 + 4) (u := .int .i64 (F4 k)) d4 hg2
      have dy5 := Ext.cell (W := wr) (b := g2) (o := k * 6 + 5) (u := .int .i64 (F5 k)) d5 hg2
      refine wp_region_ext (by kernel_rfl) (by kernel_rfl) ?_
      repeat (go_big_quiet_step ((go_at_call 30; exact ext_call (eqArc_any _ _ _ _ _ _ _))))
      refine wpQuiet_nil ?_
      intro W1 hx
      obtain ⟨x, hx⟩ := hx
      have hW1 := x.h
      rw [← hx] at hW1
      have hB := hbel.trans (hW1.mono hbel.size)
      clear hx x hW1 cy0 c0 cy1 c1 cy2 c2 cy3 c3 cy4 c4 cy5 c5 dy0 d0 dy1 d1 dy2 d2 dy3 d3 dy4 d4 dy5 d5
      go_wp2
      go_roundw
      case rel => exact ⟨k + 1, by omega, by go_num, hB⟩
      case measure => simp [intOf]; omega
    · go_wp2
      go_ret
      exact ⟨rfl, hbel⟩
end Go.Proofs.Ytnfdodgecbibjaa
