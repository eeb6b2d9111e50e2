/- Outlines that were handed back: compared, and held. -/
import Derived.Test.YtnfdodgecbibjaaArcM
namespace Go.Proofs.Ytnfdodgecbibjaa
open Go.RowKit
attribute [local go_sem ↓] Go.wp_at_zero Go.wp_at_succ
set_option linter.unusedVariables false

set_option maxHeartbeats 1000000 in
theorem eqArcS_p (g1 g2 n c1 c2 M1 M2 : Nat) (F0 : Nat → Int) (F1 : Nat → Int) (F2 : Nat → Int) (F3 : Nat → Int) (F4 : Nat → Int) (F5 : Nat → Int) (w : World) (t1 t2 : TypeId) (hn : n ≤ 1048576) (h1 : Part w g1 t1 M1 (n * 6) (flat 6 (rowArc F0 F1 F2 F3 F4 F5))) (hm1 : n * 6 ≤ M1) (h2 : Part w g2 t2 M2 (n * 6) (flat 6 (rowArc F0 F1 F2 F3 F4 F5))) (hm2 : n * 6 ≤ M2) :
    Calls Try.prog 12 #[.slice (some ⟨g1, 0, none⟩) n c1, .slice (some ⟨g2, 0, none⟩) n c2] w fun e w' => e = .returned (.bool true) ∧ Below w.heap.size w w' := by
  have hl1 := h1.lt
  have hl2 := h2.lt
  have HR1 := Lib.hid (RdArc.of_part h1 hm1)
  have HR2 := Lib.hid (RdArc.of_part h2 hm2)
  clear h1 h2
  go_enter Try.func12, Try.ntmps12
  go_wp2
  go_loopw [5] (fun i wr => ∃ (k : Nat), k ≤ n ∧ i = .int .i64 k ∧ Below w.heap.size w wr) (fun i _ => n - (intOf i).toNat)
  case atStart => exact ⟨0, Nat.zero_le _, rfl, Below.refl _ _⟩
  case round =>
    obtain ⟨k, hk, rfl, hbel⟩ := hrel
    by_cases hlt : k < n
    · have hlti : (k : Int) < (n : Int) := by omega
      have hki : (0 : Int) ≤ (k : Int) := by omega
      obtain ⟨c0, c1, c2, c3, c4, c5⟩ := HR1.out k hlt
      obtain ⟨d0, d1, d2, d3, d4, d5⟩ := HR2.out k hlt
      have hbc := bcell hbel
      rw [← hbc _ _ hl1] at c0 c1 c2 c3 c4 c5
      rw [← hbc _ _ hl2] at d0 d1 d2 d3 d4 d5
      simp only [Nat.zero_add] at c0 c1 c2 c3 c4 c5 d0 d1 d2 d3 d4 d5
      clear hbc
      go_wp2
      have hg1 : g1 < wr.heap.size := Nat.lt_of_lt_of_le hl1 hbel.size
      have cy0 := Ext.cell (W := wr) (b := g1) (o := k * 6) (u := .int .i64 (F0 k)) c0 hg1
      have cy1 := Ext.cell (W := wr) (b := g1) (o := k * 6 + 1) (u := .int .i64 (F1 k)) c1 hg1
      have cy2 := Ext.cell (W := wr) (b := g1) (o := k * 6 + 2) (u := .int .i64 (F2 k)) c2 hg1
      have cy3 := Ext.cell (W := wr) (b := g1) (o := k * 6 + 3) (u := .int .i64 (F3 k)) c3 hg1
      have cy4 := Ext.cell (W := wr) (b := g1) (o := k * 6 + 4) (u := .int .i64 (F4 k)) c4 hg1
      have cy5 := Ext.cell (W := wr) (b := g1) (o := k * 6 + 5) (u := .int .i64 (F5 k)) c5 hg1
      have hg2 : g2 < wr.heap.size := Nat.lt_of_lt_of_le hl2 hbel.size
      have dy0 := Ext.cell (W := wr) (b := g2) (o := k * 6) (u := .int .i64 (F0 k)) d0 hg2
      have dy1 := Ext.cell (W := wr) (b := g2) (o := k * 6 + 1) (u := .int .i64 (F1 k)) d1 hg2
      have dy2 := Ext.cell (W := wr) (b := g2) (o := k * 6 + 2) (u := .int .i64 (F2 k)) d2 hg2
      have dy3 := Ext.cell (W := wr) (b := g2) (o := k * 6 + 3) (u := .int .i64 (F3 k)) d3 hg2
      have dy4 := Ext.cell (W := wr) (b := g2) (o := k * 6 + 4) (u := .int .i64 (F4 k)) d4 hg2
      have dy5 := Ext.cell (W := wr) (b := g2) (o := k * 6 + 5) (u := .int .i64 (F5 k)) d5 hg2
      refine wp_region_ext (by kernel_rfl) (by kernel_rfl) ?_
      repeat (go_big_quiet_step ((go_at_call 30; exact ext_call (eqArc_any _ _ _ _ _ _ _))))
      refine wpQuiet_nil ?_
      intro W1 hx
      obtain ⟨x, hx⟩ := hx
      have hW1 := x.h
      rw [← hx] at hW1
      have hB := hbel.trans (hW1.mono hbel.size)
      clear hx x hW1 cy0 c0 cy1 c1 cy2 c2 cy3 c3 cy4 c4 cy5 c5 dy0 d0 dy1 d1 dy2 d2 dy3 d3 dy4 d4 dy5 d5
      go_wp2
      go_roundw
      case rel => exact ⟨k + 1, by omega, by go_num, hB⟩
      case measure => simp [intOf]; omega
    · go_wp2
      go_ret
      exact ⟨rfl, hbel⟩

set_option maxHeartbeats 400000 in
theorem eqArcS_none (c1 c2 : Nat) (a1 a2 : Option Addr) (w : World) :
    Calls Try.prog 12 #[.slice a1 0 c1, .slice a2 0 c2] w fun e w' => e = .returned (.bool true) ∧ Below w.heap.size w w' := by
  go_enter Try.func12, Try.ntmps12
  go_wp2
  go_loopw [5] (fun i wr => i = .int .i64 0 ∧ w = wr) (fun _ _ => 0)
  case atStart => exact ⟨rfl, rfl⟩
  case round =>
    obtain ⟨rfl, rfl⟩ := hrel
    go_wp2
    go_ret
    exact ⟨rfl, Below.refl _ _⟩

set_option maxHeartbeats 4000000 in
theorem heldArcS_p (g n c M : Nat) (w : World) (t1 : TypeId) (hn : n ≤ 1048576) (h1 : Part w g t1 M (n * 6) marks) (hm : n * 6 ≤ M) :
    Calls Try.prog 25 #[.slice (some ⟨g, 0, none⟩) n c, .int .i64 1] w fun e w' => e = .returned (.int .i64 (1 + (n : Int) * 6)) ∧ Below w.heap.size w w' := by
  have HR1 := Lib.hid (fun i (hi : i < n * 6) => h1.at hi hm)
  clear h1
  go_enter Try.func25, Try.ntmps25
  go_wp2
  go_loopw [1, 5] (fun v i wr => ∃ (k : Nat), k ≤ n ∧ i = .int .i64 k ∧ v = .int .i64 (1 + (k : Int) * 6) ∧ w = wr) (fun _ i _ => n - (intOf i).toNat)
  case atStart => exact ⟨0, Nat.zero_le _, rfl, rfl, rfl⟩
  case round =>
    obtain ⟨k, hk, rfl, rfl, rfl⟩ := hrel
    by_cases hlt : k < n
    · have hlti : (k : Int) < (n : Int) := by omega
      have hki : (0 : Int) ≤ (k : Int) := by omega
      have d0 : w.cell? ⟨g, k * 6, none⟩ = some (.int .i64 (1 + (k : Int) * 6)) := by rw [HR1.out (k * 6) (by omega)]; unfold marks; congr 2; all_goals omega
      have d1 : w.cell? ⟨g, k * 6 + 1, none⟩ = some (.int .i64 (1 + (k : Int) * 6 + 1)) := by rw [HR1.out (k * 6 + 1) (by omega)]; unfold marks; congr 2; all_goals omega
      have d2 : w.cell? ⟨g, k * 6 + 2, none⟩ = some (.int .i64 (1 + (k : Int) * 6 + 1 + 1)) := by rw [HR1.out (k * 6 + 2) (by omega)]; unfold marks; congr 2; all_goals omega
      have d3 : w.cell? ⟨g, k * 6 + 3, none⟩ = some (.int .i64 (1 + (k : Int) * 6 + 1 + 1 + 1)) := by rw [HR1.out (k * 6 + 3) (by omega)]; unfold marks; congr 2; all_goals omega
      have d4 : w.cell? ⟨g, k * 6 + 4, none⟩ = some (.int .i64 (1 + (k : Int) * 6 + 1 + 1 + 1 + 1)) := by rw [HR1.out (k * 6 + 4) (by omega)]; unfold marks; congr 2; all_goals omega
      have d5 : w.cell? ⟨g, k * 6 + 5, none⟩ = some (.int .i64 (1 + (k : Int) * 6 + 1 + 1 + 1 + 1 + 1)) := by rw [HR1.out (k * 6 + 5) (by omega)]; unfold marks; congr 2; all_goals omega
      have d3b : w.cell? ⟨g, k * 6 + 2 + 1, none⟩ = some (.int .i64 (1 + (k : Int) * 6 + 1 + 1 + 1)) := d3
      have d5b : w.cell? ⟨g, k * 6 + 4 + 1, none⟩ = some (.int .i64 (1 + (k : Int) * 6 + 1 + 1 + 1 + 1 + 1)) := d5
      go_wp2
      go_roundw
      case rel => exact ⟨k + 1, by omega, by go_num, by go_num, by first | rfl | trivial⟩
      case measure => simp [intOf]; omega
    · obtain rfl : k = n := by omega
      go_wp2
      go_ret
      exact ⟨rfl, Below.refl _ _⟩

set_option maxHeartbeats 400000 in
theorem heldArcS_none (c : Nat) (a : Option Addr) (w : World) :
    Calls Try.prog 25 #[.slice a 0 c, .int .i64 1] w fun e w' => e = .returned (.int .i64 1) ∧ Below w.heap.size w w' := by
  go_enter Try.func25, Try.ntmps25
  go_wp2
  go_loopw [1, 5] (fun v i wr => i = .int .i64 0 ∧ v = .int .i64 1 ∧ w = wr) (fun _ _ _ => 0)
  case atStart => exact ⟨rfl, rfl, rfl⟩
  case round =>
    obtain ⟨rfl, rfl, rfl⟩ := hrel
    go_wp2
    go_ret
    exact ⟨rfl, Below.refl _ _⟩
end Go.Proofs.Ytnfdodgecbibjaa
