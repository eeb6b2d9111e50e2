/- Outlines that were handed back: marked. -/
import Derived.Test.YtnfdodgecbibjaaArc
import Derived.Test.YtnfdodgecbibjaaRes
namespace Go.Proofs.Ytnfdodgecbibjaa
open Go.RowKit
attribute [local go_sem ↓] Go.wp_at_zero Go.wp_at_succ
set_option linter.unusedVariables false

theorem RdArc.of_part {w : World} {g n M : Nat} {t : TypeId} {F0 : Nat → Int} {F1 : Nat → Int} {F2 : Nat → Int} {F3 : Nat → Int} {F4 : Nat → Int} {F5 : Nat → Int} (h : Part w g t M (n * 6) (flat 6 (rowArc F0 F1 F2 F3 F4 F5))) (hM : n * 6 ≤ M) : RdArc w g 0 n F0 F1 F2 F3 F4 F5 := by
  intro i hi
  refine ⟨?_, ?_, ?_, ?_, ?_, ?_⟩
  · have e := h.at (i := i * 6) (by omega) hM; rw [flat_at0 _ _ _ (by omega)] at e; simpa [rowArc] using e
  · have e := h.at (i := i * 6 + 1) (by omega) hM; rw [flat_at _ _ _ _ (by omega)] at e; simpa [rowArc] using e
  · have e := h.at (i := i * 6 + 2) (by omega) hM; rw [flat_at _ _ _ _ (by omega)] at e; simpa [rowArc] using e
  · have e := h.at (i := i * 6 + 3) (by omega) hM; rw [flat_at _ _ _ _ (by omega)] at e; simpa [rowArc] using e
  · have e := h.at (i := i * 6 + 4) (by omega) hM; rw [flat_at _ _ _ _ (by omega)] at e; simpa [rowArc] using e
  · have e := h.at (i := i * 6 + 5) (by omega) hM; rw [flat_at _ _ _ _ (by omega)] at e; simpa [rowArc] using e

theorem mark6 {w : World} {g M k : Nat} {t : TypeId} (h : Part w g t M (k * 6) marks) {A0 A1 A2 A3 A4 A5 : Int} (h0 : A0 = 1 + ((k * 6 : Nat) : Int)) (h1 : A1 = 1 + ((k * 6 + 1 : Nat) : Int)) (h2 : A2 = 1 + ((k * 6 + 1 + 1 : Nat) : Int)) (h3 : A3 = 1 + ((k * 6 + 1 + 1 + 1 : Nat) : Int)) (h4 : A4 = 1 + ((k * 6 + 1 + 1 + 1 + 1 : Nat) : Int)) (h5 : A5 = 1 + ((k * 6 + 1 + 1 + 1 + 1 + 1 : Nat) : Int)) : Part ((((((w.setCell ⟨g, k * 6, none⟩ (.int .i64 A0)).setCell ⟨g, k * 6 + 1, none⟩ (.int .i64 A1)).setCell ⟨g, k * 6 + 2, none⟩ (.int .i64 A2)).setCell ⟨g, k * 6 + 3, none⟩ (.int .i64 A3)).setCell ⟨g, k * 6 + 4, none⟩ (.int .i64 A4)).setCell ⟨g, k * 6 + 5, none⟩ (.int .i64 A5)) g t M ((k + 1) * 6) marks :=
  ((((((h.put (j := k * 6) (by omega) (v := .int .i64 A0) (by subst h0; rfl)).put (j := k * 6 + 1) (by omega) (v := .int .i64 A1) (by subst h1; rfl)).put (j := k * 6 + 2) (by omega) (v := .int .i64 A2) (by subst h2; rfl)).put (j := k * 6 + 3) (by omega) (v := .int .i64 A3) (by subst h3; rfl)).put (j := k * 6 + 4) (by omega) (v := .int .i64 A4) (by subst h4; rfl)).put (j := k * 6 + 5) (by omega) (v := .int .i64 A5) (by subst h5; rfl)).upto (by omega)

theorem grown6 {w w0 : World} {g k : Nat} (h : w0.grownBy w (some g)) {A0 A1 A2 A3 A4 A5 : Int} : w0.grownBy ((((((w.setCell ⟨g, k * 6, none⟩ (.int .i64 A0)).setCell ⟨g, k * 6 + 1, none⟩ (.int .i64 A1)).setCell ⟨g, k * 6 + 2, none⟩ (.int .i64 A2)).setCell ⟨g, k * 6 + 3, none⟩ (.int .i64 A3)).setCell ⟨g, k * 6 + 4, none⟩ (.int .i64 A4)).setCell ⟨g, k * 6 + 5, none⟩ (.int .i64 A5)) (some g) := (grown_set (grown_set (grown_set (grown_set (grown_set (grown_set h _ _) _ _) _ _) _ _) _ _) _ _)

set_option maxHeartbeats 4000000 in
theorem markArcS_p (g n c M : Nat) (f : Nat → Value) (w : World) (t1 : TypeId) (hn : n ≤ 1048576) (h1 : Part w g t1 M (n * 6) f) (hm : n * 6 ≤ M) :
    Calls Try.prog 18 #[.slice (some ⟨g, 0, none⟩) n c, .int .i64 1] w fun e w' => e = .returned (.int .i64 (1 + (n : Int) * 6)) ∧ Part w' g t1 M (n * 6) marks ∧ w.grownBy w' (some g) := by
  have H1 := Lib.hid h1
  clear h1
  go_enter Try.func18, Try.ntmps18
  go_wp2
  go_loopw [1, 5] (fun v i wr => ∃ (k : Nat), k ≤ n ∧ i = .int .i64 k ∧ v = .int .i64 (1 + (k : Int) * 6) ∧ Part wr g t1 M (k * 6) marks ∧ w.grownBy wr (some g)) (fun _ i _ => n - (intOf i).toNat)
  case atStart => exact ⟨0, Nat.zero_le _, rfl, rfl, H1.out.none.upto (by omega), World.grownBy.refl _ _⟩
  case round =>
    obtain ⟨k, hk, rfl, rfl, hpart, hg⟩ := hrel
    by_cases hlt : k < n
    · have hlti : (k : Int) < (n : Int) := by omega
      have hki : (0 : Int) ≤ (k : Int) := by omega
      obtain ⟨u0, d0⟩ := hpart.cell (i := k * 6) (by omega)
      obtain ⟨u1, d1⟩ := hpart.cell (i := k * 6 + 1) (by omega)
      obtain ⟨u2, d2⟩ := hpart.cell (i := k * 6 + 2) (by omega)
      obtain ⟨u3, d3⟩ := hpart.cell (i := k * 6 + 3) (by omega)
      obtain ⟨u4, d4⟩ := hpart.cell (i := k * 6 + 4) (by omega)
      obtain ⟨u5, d5⟩ := hpart.cell (i := k * 6 + 5) (by omega)
      have f0 := hpart.frozen (k * 6)
      have f1 := hpart.frozen (k * 6 + 1)
      have f2 := hpart.frozen (k * 6 + 2)
      have f3 := hpart.frozen (k * 6 + 3)
      have f4 := hpart.frozen (k * 6 + 4)
      have f5 := hpart.frozen (k * 6 + 5)
      have d3b : wr.cell? ⟨g, k * 6 + 2 + 1, none⟩ = some u3 := d3
      have d5b : wr.cell? ⟨g, k * 6 + 4 + 1, none⟩ = some u5 := d5
      have f3b : wr.frozen? ⟨g, k * 6 + 2 + 1, none⟩ = false := f3
      have f5b : wr.frozen? ⟨g, k * 6 + 4 + 1, none⟩ = false := f5
      have HP := Lib.hid hpart
      have HG := Lib.hid hg
      clear hpart hg
      go_wp2
      clear d0 d1 d2 d3 d4 d5 f0 f1 f2 f3 f4 f5 d3b d5b f3b f5b
      go_roundw
      case rel => exact ⟨k + 1, by omega, by go_num, by go_num, mark6 HP.out (by omega) (by omega) (by omega) (by omega) (by omega) (by omega), grown6 HG.out⟩
      case measure => simp [intOf]; omega
    · obtain rfl : k = n := by omega
      go_wp2
      go_ret
      exact ⟨rfl, hpart, hg⟩

set_option maxHeartbeats 400000 in
theorem markArcS_none (c : Nat) (a : Option Addr) (w : World) :
    Calls Try.prog 18 #[.slice a 0 c, .int .i64 1] w fun e w' => e = .returned (.int .i64 1) ∧ w = w' := by
  go_enter Try.func18, Try.ntmps18
  go_wp2
  go_loopw [1, 5] (fun v i wr => i = .int .i64 0 ∧ v = .int .i64 1 ∧ w = wr) (fun _ _ _ => 0)
  case atStart => exact ⟨rfl, rfl, rfl⟩
  case round =>
    obtain ⟨rfl, rfl, rfl⟩ := hrel
    go_wp2
    go_ret
    exact ⟨rfl, rfl⟩
end Go.Proofs.Ytnfdodgecbibjaa
