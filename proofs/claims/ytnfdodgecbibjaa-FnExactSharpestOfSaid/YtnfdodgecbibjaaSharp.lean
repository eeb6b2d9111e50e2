/- The contracts of SharpestOf. -/
import Derived.Test.YtnfdodgecbibjaaArcL
import Derived.Test.YtnfdodgecbibjaaSums
import Derived.Test.YtnfdodgecbibjaaMore
namespace Go.Proofs.Ytnfdodgecbibjaa
open Go.RowKit
attribute [local go_sem ↓] Go.wp_at_zero Go.wp_at_succ
set_option linter.unusedVariables false

/-- What the function hands back. -/
def sharpRes (n : Nat) (F0 : Nat → Int) (F1 : Nat → Int) (F2 : Nat → Int) (F3 : Nat → Int) (F4 : Nat → Int) (F5 : Nat → Int)  : Int × Int := (if listArc n F0 F1 F2 F3 F4 F5 = true then (((bestTo (fun k => -(sqV (F0 k) (F1 k) (F2 k) (F3 k))) n : Nat) : Int), 0) else (0, 1))

set_option maxHeartbeats 2000000 in
theorem specSharpestOf_any (g n : Nat) (F0 : Nat → Int) (F1 : Nat → Int) (F2 : Nat → Int) (F3 : Nat → Int) (F4 : Nat → Int) (F5 : Nat → Int)  (v1 : Int) (v2 : Int) (w : World) (t1 : TypeId) (hn : n ≤ 1048576) (h1 : w.rowIs g t1 (n * 6) (flat 6 (rowArc F0 F1 F2 F3 F4 F5)))   (hv : sharpRes n F0 F1 F2 F3 F4 F5  = (v1, v2)) :
    Calls Try.prog 13 #[.slice (some ⟨g, 0, none⟩) n n] w fun e w' => e = .returned (.tuple #[.int .i64 v1, .int .i64 v2]) ∧ Below w.heap.size w w' := by
  have hl1 := h1.lt
  have HR1 := Lib.hid (RdArc.of_row h1)
  have H1 := Lib.hid h1
  clear h1 
  by_cases e0 : listArc n F0 F1 F2 F3 F4 F5 = true
  case neg =>
    obtain ⟨rfl, rfl⟩ : v1 = 0 ∧ v2 = 1 := by unfold sharpRes at hv; rw [if_neg e0] at hv; simpa [eq_comm] using hv
    have e0n : (listArc n F0 F1 F2 F3 F4 F5) = false := by simpa using e0
    clear hv e0
    go_enter Try.func13, Try.ntmps13
    go_wp2_with fail
    refine (OkArc_any _ _ F0 F1 F2 F3 F4 F5 _ _ hn H1.out ).mono ?_
    rintro e w1 ⟨rfl, hb1⟩
    go_wp2_with (first | (go_at_call 49; refine (l00In_any _ _ _ _).mono ?_; rintro e w' ⟨rfl, rfl⟩) | go_in)
    go_ret2
    exact ⟨rfl, hb1⟩
  replace hv : (((bestTo (fun k => -(sqV (F0 k) (F1 k) (F2 k) (F3 k))) n : Nat) : Int), 0) = (v1, v2) := by unfold sharpRes at hv; rw [if_pos e0] at hv; exact hv
  have HV := Lib.hid hv
  clear hv
  go_enter Try.func13, Try.ntmps13
  go_wp2_with fail
  refine (OkArc_any _ _ F0 F1 F2 F3 F4 F5 _ _ hn H1.out ).mono ?_
  rintro e w1 ⟨rfl, hb1⟩
  have H2 := Lib.hid (row_below H1.out hb1 H1.out.lt)
  obtain ⟨hn2, hn16⟩ := listArc_n e0
  go_wp2
  go_loopw [4, 5] (fun v i wr => ∃ (k b : Nat), k ≤ n ∧ b < n ∧ i = .int .i64 k ∧ v = .int .i64 b ∧ Hid (b = bestTo (fun k => -(sqV (F0 k) (F1 k) (F2 k) (F3 k))) k) ∧ Below w.heap.size w wr) (fun _ i _ => n - (intOf i).toNat)
  case atStart => exact ⟨1, 0, by omega, by omega, rfl, rfl, (bestTo_one _).symm, hb1⟩
  case round =>
    obtain ⟨k, b, hk, hbn, rfl, rfl, hbest, hbel⟩ := hrel
    have hgl : g < wr.heap.size := Nat.lt_of_lt_of_le hl1 hbel.size
    by_cases hlt : k < n
    · have hlti : (k : Int) < (n : Int) := by omega
      have hki : (0 : Int) ≤ (k : Int) := by omega
      have hbi : (b : Int) < (n : Int) := by omega
      have hb0 : (0 : Int) ≤ (b : Int) := by omega
      obtain ⟨d0, d1, d2, d3, d4, d5⟩ := HR1.out b hbn
      rw [← bcell hbel _ _ hl1] at d0 d1 d2 d3 d4 d5
      simp only [Nat.zero_add] at d0 d1 d2 d3 d4 d5
      obtain ⟨c0, c1, c2, c3, c4, c5⟩ := HR1.out k hlt
      have hbc := bcell hbel
      rw [← hbc _ _ hl1] at c0 c1 c2 c3 c4 c5
      simp only [Nat.zero_add] at c0 c1 c2 c3 c4 c5
      clear hbc
      by_cases hc : sqV (F0 k) (F1 k) (F2 k) (F3 k) < sqV (F0 b) (F1 b) (F2 b) (F3 b)
      · have HB := Lib.hid (show Hid (k = bestTo (fun k => -(sqV (F0 k) (F1 k) (F2 k) (F3 k))) (k + 1)) by have h := hbest.out; show _ = _; rw [bestTo_yes (by rw [← h]; show -(sqV (F0 b) (F1 b) (F2 b) (F3 b)) < -(sqV (F0 k) (F1 k) (F2 k) (F3 k)); omega)])
        have hcd : decide (sqV (F0 k) (F1 k) (F2 k) (F3 k) < sqV (F0 b) (F1 b) (F2 b) (F3 b)) = true := by simpa using hc
        clear hc hbest
        go_wp2
        have y0 := Ext.cell (W := wr) (b := g) (o := k * 6) (u := .int .i64 (F0 k)) c0 hgl
        have y1 := Ext.cell (W := wr) (b := g) (o := k * 6 + 1) (u := .int .i64 (F1 k)) c1 hgl
        have y2 := Ext.cell (W := wr) (b := g) (o := k * 6 + 2) (u := .int .i64 (F2 k)) c2 hgl
        have y3 := Ext.cell (W := wr) (b := g) (o := k * 6 + 3) (u := .int .i64 (F3 k)) c3 hgl
        have y3b := Ext.cell (W := wr) (b := g) (o := k * 6 + 2 + 1) (u := .int .i64 (F3 k)) c3 hgl
        have y4 := Ext.cell (W := wr) (b := g) (o := k * 6 + 4) (u := .int .i64 (F4 k)) c4 hgl
        have y5 := Ext.cell (W := wr) (b := g) (o := k * 6 + 5) (u := .int .i64 (F5 k)) c5 hgl
        have y5b := Ext.cell (W := wr) (b := g) (o := k * 6 + 4 + 1) (u := .int .i64 (F5 k)) c5 hgl
        have u0 := Ext.cell (W := wr) (b := g) (o := b * 6) (u := .int .i64 (F0 b)) d0 hgl
        have u1 := Ext.cell (W := wr) (b := g) (o := b * 6 + 1) (u := .int .i64 (F1 b)) d1 hgl
        have u2 := Ext.cell (W := wr) (b := g) (o := b * 6 + 2) (u := .int .i64 (F2 b)) d2 hgl
        have u3 := Ext.cell (W := wr) (b := g) (o := b * 6 + 3) (u := .int .i64 (F3 b)) d3 hgl
        have u3b := Ext.cell (W := wr) (b := g) (o := b * 6 + 2 + 1) (u := .int .i64 (F3 b)) d3 hgl
        have u4 := Ext.cell (W := wr) (b := g) (o := b * 6 + 4) (u := .int .i64 (F4 b)) d4 hgl
        have u5 := Ext.cell (W := wr) (b := g) (o := b * 6 + 5) (u := .int .i64 (F5 b)) d5 hgl
        have u5b := Ext.cell (W := wr) (b := g) (o := b * 6 + 4 + 1) (u := .int .i64 (F5 b)) d5 hgl
        refine wp_region_ext (by kernel_rfl) (by kernel_rfl) ?_
        repeat (go_big_quiet_step ((go_at_call 31; exact ext_call (l05Square_any _ _ _ _ _))))
        refine wpQuiet_nil ?_
        intro W1 hx
        obtain ⟨x, hx⟩ := hx
        have hW1 := x.h
        rw [← hx] at hW1
        clear hx x y0 y1 y2 y3 y3b y4 y5 y5b u0 u1 u2 u3 u3b u4 u5 u5b
        have hbel2 := hbel.trans (hW1.mono hbel.size)
        go_wp2
        go_roundw
        case rel => first | exact ⟨k + 1, k, by omega, by omega, by go_num, rfl, HB.out, hbel2⟩ | ((repeat apply Exists.intro); exact ⟨⟨k + 1, k, by omega, by omega, by go_num, rfl, HB.out, hbel2⟩, rfl⟩)
        case measure => simp [intOf]; omega
      · have HB := Lib.hid (show Hid (b = bestTo (fun k => -(sqV (F0 k) (F1 k) (F2 k) (F3 k))) (k + 1)) by have h := hbest.out; show _ = _; rw [bestTo_no (by rw [← h]; show ¬ -(sqV (F0 b) (F1 b) (F2 b) (F3 b)) < -(sqV (F0 k) (F1 k) (F2 k) (F3 k)); omega)]; exact h)
        have hcd : decide (sqV (F0 k) (F1 k) (F2 k) (F3 k) < sqV (F0 b) (F1 b) (F2 b) (F3 b)) = false := by simpa using hc
        clear hc hbest
        go_wp2
        have y0 := Ext.cell (W := wr) (b := g) (o := k * 6) (u := .int .i64 (F0 k)) c0 hgl
        have y1 := Ext.cell (W := wr) (b := g) (o := k * 6 + 1) (u := .int .i64 (F1 k)) c1 hgl
        have y2 := Ext.cell (W := wr) (b := g) (o := k * 6 + 2) (u := .int .i64 (F2 k)) c2 hgl
        have y3 := Ext.cell (W := wr) (b := g) (o := k * 6 + 3) (u := .int .i64 (F3 k)) c3 hgl
        have y3b := Ext.cell (W := wr) (b := g) (o := k * 6 + 2 + 1) (u := .int .i64 (F3 k)) c3 hgl
        have y4 := Ext.cell (W := wr) (b := g) (o := k * 6 + 4) (u := .int .i64 (F4 k)) c4 hgl
        have y5 := Ext.cell (W := wr) (b := g) (o := k * 6 + 5) (u := .int .i64 (F5 k)) c5 hgl
        have y5b := Ext.cell (W := wr) (b := g) (o := k * 6 + 4 + 1) (u := .int .i64 (F5 k)) c5 hgl
        have u0 := Ext.cell (W := wr) (b := g) (o := b * 6) (u := .int .i64 (F0 b)) d0 hgl
        have u1 := Ext.cell (W := wr) (b := g) (o := b * 6 + 1) (u := .int .i64 (F1 b)) d1 hgl
        have u2 := Ext.cell (W := wr) (b := g) (o := b * 6 + 2) (u := .int .i64 (F2 b)) d2 hgl
        have u3 := Ext.cell (W := wr) (b := g) (o := b * 6 + 3) (u := .int .i64 (F3 b)) d3 hgl
        have u3b := Ext.cell (W := wr) (b := g) (o := b * 6 + 2 + 1) (u := .int .i64 (F3 b)) d3 hgl
        have u4 := Ext.cell (W := wr) (b := g) (o := b * 6 + 4) (u := .int .i64 (F4 b)) d4 hgl
        have u5 := Ext.cell (W := wr) (b := g) (o := b * 6 + 5) (u := .int .i64 (F5 b)) d5 hgl
        have u5b := Ext.cell (W := wr) (b := g) (o := b * 6 + 4 + 1) (u := .int .i64 (F5 b)) d5 hgl
        refine wp_region_ext (by kernel_rfl) (by kernel_rfl) ?_
        repeat (go_big_quiet_step ((go_at_call 31; exact ext_call (l05Square_any _ _ _ _ _))))
        refine wpQuiet_nil ?_
        intro W1 hx
        obtain ⟨x, hx⟩ := hx
        have hW1 := x.h
        rw [← hx] at hW1
        clear hx x y0 y1 y2 y3 y3b y4 y5 y5b u0 u1 u2 u3 u3b u4 u5 u5b
        have hbel2 := hbel.trans (hW1.mono hbel.size)
        go_wp2
        go_roundw
        case rel => first | exact ⟨k + 1, b, by omega, by omega, by go_num, rfl, HB.out, hbel2⟩ | ((repeat apply Exists.intro); exact ⟨⟨k + 1, b, by omega, by omega, by go_num, rfl, HB.out, hbel2⟩, rfl⟩)
        case measure => simp [intOf]; omega
    · obtain rfl : k = n := by omega
      have hv := HV.out
      simp only [Prod.mk.injEq] at hv
      rw [← hbest.out] at hv
      go_wp2
      go_ret2
      exact ⟨by rw [← hv.1, ← hv.2]; rfl, hbel⟩

set_option maxHeartbeats 2000000 in
theorem implSharpestOf_any (g n : Nat) (F0 : Nat → Int) (F1 : Nat → Int) (F2 : Nat → Int) (F3 : Nat → Int) (F4 : Nat → Int) (F5 : Nat → Int)  (v1 : Int) (v2 : Int) (w : World) (t1 : TypeId) (hn : n ≤ 1048576) (h1 : w.rowIs g t1 (n * 6) (flat 6 (rowArc F0 F1 F2 F3 F4 F5)))   (hv : sharpRes n F0 F1 F2 F3 F4 F5  = (v1, v2)) :
    Calls Try.prog 14 #[.slice (some ⟨g, 0, none⟩) n n] w fun e w' => e = .returned (.tuple #[.int .i64 v1, .int .i64 v2]) ∧ Below w.heap.size w w' := by
  have hl1 := h1.lt
  have HR1 := Lib.hid (RdArc.of_row h1)
  have H1 := Lib.hid h1
  clear h1 
  by_cases e0 : listArc n F0 F1 F2 F3 F4 F5 = true
  case neg =>
    obtain ⟨rfl, rfl⟩ : v1 = 0 ∧ v2 = 1 := by unfold sharpRes at hv; rw [if_neg e0] at hv; simpa [eq_comm] using hv
    have e0n : (listArc n F0 F1 F2 F3 F4 F5) = false := by simpa using e0
    clear hv e0
    go_enter Try.func14, Try.ntmps14
    go_wp2_with fail
    refine (ValidArcs_any _ _ F0 F1 F2 F3 F4 F5 _ _ hn H1.out ).mono ?_
    rintro e w1 ⟨rfl, hb1⟩
    go_wp2_with (first | (go_at_call 43; refine (within_any _ _ _ _).mono ?_; rintro e w' ⟨rfl, rfl⟩) | go_in)
    go_ret2
    exact ⟨rfl, hb1⟩
  replace hv : (((bestTo (fun k => -(sqV (F0 k) (F1 k) (F2 k) (F3 k))) n : Nat) : Int), 0) = (v1, v2) := by unfold sharpRes at hv; rw [if_pos e0] at hv; exact hv
  have HV := Lib.hid hv
  clear hv
  go_enter Try.func14, Try.ntmps14
  go_wp2_with fail
  refine (ValidArcs_any _ _ F0 F1 F2 F3 F4 F5 _ _ hn H1.out ).mono ?_
  rintro e w1 ⟨rfl, hb1⟩
  have H2 := Lib.hid (row_below H1.out hb1 H1.out.lt)
  obtain ⟨hn2, hn16⟩ := listArc_n e0
  go_wp2
  go_loopw [4, 12] (fun v i wr => ∃ (k b : Nat), k ≤ n ∧ b < n ∧ i = .int .i64 k ∧ v = .int .i64 b ∧ Hid (b = bestTo (fun k => -(sqV (F0 k) (F1 k) (F2 k) (F3 k))) k) ∧ Below w.heap.size w wr) (fun _ i _ => n - (intOf i).toNat)
  case atStart => exact ⟨0, 0, by omega, by omega, rfl, rfl, rfl, hb1⟩
  case round =>
    obtain ⟨k, b, hk, hbn, rfl, rfl, hbest, hbel⟩ := hrel
    have hgl : g < wr.heap.size := Nat.lt_of_lt_of_le hl1 hbel.size
    by_cases hlt : k < n
    · have hlti : (k : Int) < (n : Int) := by omega
      have hki : (0 : Int) ≤ (k : Int) := by omega
      have hbi : (b : Int) < (n : Int) := by omega
      have hb0 : (0 : Int) ≤ (b : Int) := by omega
      obtain ⟨d0, d1, d2, d3, d4, d5⟩ := HR1.out b hbn
      rw [← bcell hbel _ _ hl1] at d0 d1 d2 d3 d4 d5
      simp only [Nat.zero_add] at d0 d1 d2 d3 d4 d5
      obtain ⟨c0, c1, c2, c3, c4, c5⟩ := HR1.out k hlt
      have hbc := bcell hbel
      rw [← hbc _ _ hl1] at c0 c1 c2 c3 c4 c5
      simp only [Nat.zero_add] at c0 c1 c2 c3 c4 c5
      clear hbc
      by_cases hc : sqV (F0 k) (F1 k) (F2 k) (F3 k) < sqV (F0 b) (F1 b) (F2 b) (F3 b)
      · have HB := Lib.hid (show Hid (k = bestTo (fun k => -(sqV (F0 k) (F1 k) (F2 k) (F3 k))) (k + 1)) by have h := hbest.out; show _ = _; rw [bestTo_yes (by rw [← h]; show -(sqV (F0 b) (F1 b) (F2 b) (F3 b)) < -(sqV (F0 k) (F1 k) (F2 k) (F3 k)); omega)])
        have hcd : decide (sqV (F0 k) (F1 k) (F2 k) (F3 k) < sqV (F0 b) (F1 b) (F2 b) (F3 b)) = true := by simpa using hc
        clear hc hbest
        go_wp2
        have y0 := Ext.cell (W := (wr.alloc (.cells #[.int .i64 (F0 k), .int .i64 (F1 k), .int .i64 (F2 k), .int .i64 (F3 k), .int .i64 (F4 k), .int .i64 (F5 k)] 43))) (b := wr.heap.size) (o := 0) (u := .int .i64 (F0 k)) (by simp) (by simp)
        have y1 := Ext.cell (W := (wr.alloc (.cells #[.int .i64 (F0 k), .int .i64 (F1 k), .int .i64 (F2 k), .int .i64 (F3 k), .int .i64 (F4 k), .int .i64 (F5 k)] 43))) (b := wr.heap.size) (o := 1) (u := .int .i64 (F1 k)) (by simp) (by simp)
        have y2 := Ext.cell (W := (wr.alloc (.cells #[.int .i64 (F0 k), .int .i64 (F1 k), .int .i64 (F2 k), .int .i64 (F3 k), .int .i64 (F4 k), .int .i64 (F5 k)] 43))) (b := wr.heap.size) (o := 2) (u := .int .i64 (F2 k)) (by simp) (by simp)
        have y3 := Ext.cell (W := (wr.alloc (.cells #[.int .i64 (F0 k), .int .i64 (F1 k), .int .i64 (F2 k), .int .i64 (F3 k), .int .i64 (F4 k), .int .i64 (F5 k)] 43))) (b := wr.heap.size) (o := 3) (u := .int .i64 (F3 k)) (by simp) (by simp)
        have y4 := Ext.cell (W := (wr.alloc (.cells #[.int .i64 (F0 k), .int .i64 (F1 k), .int .i64 (F2 k), .int .i64 (F3 k), .int .i64 (F4 k), .int .i64 (F5 k)] 43))) (b := wr.heap.size) (o := 4) (u := .int .i64 (F4 k)) (by simp) (by simp)
        have y5 := Ext.cell (W := (wr.alloc (.cells #[.int .i64 (F0 k), .int .i64 (F1 k), .int .i64 (F2 k), .int .i64 (F3 k), .int .i64 (F4 k), .int .i64 (F5 k)] 43))) (b := wr.heap.size) (o := 5) (u := .int .i64 (F5 k)) (by simp) (by simp)
        have u0 := Ext.cell (W := (wr.alloc (.cells #[.int .i64 (F0 k), .int .i64 (F1 k), .int .i64 (F2 k), .int .i64 (F3 k), .int .i64 (F4 k), .int .i64 (F5 k)] 43))) (b := g) (o := b * 6) (u := .int .i64 (F0 b)) (by rw [World.cell?_alloc_lt _ _ _ hgl]; exact d0) (by simp; omega)
        have u1 := Ext.cell (W := (wr.alloc (.cells #[.int .i64 (F0 k), .int .i64 (F1 k), .int .i64 (F2 k), .int .i64 (F3 k), .int .i64 (F4 k), .int .i64 (F5 k)] 43))) (b := g) (o := b * 6 + 1) (u := .int .i64 (F1 b)) (by rw [World.cell?_alloc_lt _ _ _ hgl]; exact d1) (by simp; omega)
        have u2 := Ext.cell (W := (wr.alloc (.cells #[.int .i64 (F0 k), .int .i64 (F1 k), .int .i64 (F2 k), .int .i64 (F3 k), .int .i64 (F4 k), .int .i64 (F5 k)] 43))) (b := g) (o := b * 6 + 2) (u := .int .i64 (F2 b)) (by rw [World.cell?_alloc_lt _ _ _ hgl]; exact d2) (by simp; omega)
        have u3 := Ext.cell (W := (wr.alloc (.cells #[.int .i64 (F0 k), .int .i64 (F1 k), .int .i64 (F2 k), .int .i64 (F3 k), .int .i64 (F4 k), .int .i64 (F5 k)] 43))) (b := g) (o := b * 6 + 3) (u := .int .i64 (F3 b)) (by rw [World.cell?_alloc_lt _ _ _ hgl]; exact d3) (by simp; omega)
        have u3b := Ext.cell (W := (wr.alloc (.cells #[.int .i64 (F0 k), .int .i64 (F1 k), .int .i64 (F2 k), .int .i64 (F3 k), .int .i64 (F4 k), .int .i64 (F5 k)] 43))) (b := g) (o := b * 6 + 2 + 1) (u := .int .i64 (F3 b)) (by rw [World.cell?_alloc_lt _ _ _ hgl]; exact d3) (by simp; omega)
        have u4 := Ext.cell (W := (wr.alloc (.cells #[.int .i64 (F0 k), .int .i64 (F1 k), .int .i64 (F2 k), .int .i64 (F3 k), .int .i64 (F4 k), .int .i64 (F5 k)] 43))) (b := g) (o := b * 6 + 4) (u := .int .i64 (F4 b)) (by rw [World.cell?_alloc_lt _ _ _ hgl]; exact d4) (by simp; omega)
        have u5 := Ext.cell (W := (wr.alloc (.cells #[.int .i64 (F0 k), .int .i64 (F1 k), .int .i64 (F2 k), .int .i64 (F3 k), .int .i64 (F4 k), .int .i64 (F5 k)] 43))) (b := g) (o := b * 6 + 5) (u := .int .i64 (F5 b)) (by rw [World.cell?_alloc_lt _ _ _ hgl]; exact d5) (by simp; omega)
        have u5b := Ext.cell (W := (wr.alloc (.cells #[.int .i64 (F0 k), .int .i64 (F1 k), .int .i64 (F2 k), .int .i64 (F3 k), .int .i64 (F4 k), .int .i64 (F5 k)] 43))) (b := g) (o := b * 6 + 4 + 1) (u := .int .i64 (F5 b)) (by rw [World.cell?_alloc_lt _ _ _ hgl]; exact d5) (by simp; omega)
        refine wp_region_ext (by kernel_rfl) (by kernel_rfl) ?_
        repeat (go_big_quiet_step ((go_at_call 32; exact ext_call (squared_any _ _ _ _ _))))
        refine wpQuiet_nil ?_
        intro W1 hx
        obtain ⟨x, hx⟩ := hx
        have hW1 := x.h
        rw [← hx] at hW1
        clear hx x y0 y1 y2 y3 y4 y5 u0 u1 u2 u3 u3b u4 u5 u5b
        have hbel2 := below_ext hbel hW1
        go_wp2
        go_roundw
        case rel => first | exact ⟨k + 1, k, by omega, by omega, by go_num, rfl, HB.out, hbel2⟩ | ((repeat apply Exists.intro); exact ⟨⟨k + 1, k, by omega, by omega, by go_num, rfl, HB.out, hbel2⟩, rfl⟩)
        case measure => simp [intOf]; omega
      · have HB := Lib.hid (show Hid (b = bestTo (fun k => -(sqV (F0 k) (F1 k) (F2 k) (F3 k))) (k + 1)) by have h := hbest.out; show _ = _; rw [bestTo_no (by rw [← h]; show ¬ -(sqV (F0 b) (F1 b) (F2 b) (F3 b)) < -(sqV (F0 k) (F1 k) (F2 k) (F3 k)); omega)]; exact h)
        have hcd : decide (sqV (F0 k) (F1 k) (F2 k) (F3 k) < sqV (F0 b) (F1 b) (F2 b) (F3 b)) = false := by simpa using hc
        clear hc hbest
        go_wp2
        have y0 := Ext.cell (W := (wr.alloc (.cells #[.int .i64 (F0 k), .int .i64 (F1 k), .int .i64 (F2 k), .int .i64 (F3 k), .int .i64 (F4 k), .int .i64 (F5 k)] 43))) (b := wr.heap.size) (o := 0) (u := .int .i64 (F0 k)) (by simp) (by simp)
        have y1 := Ext.cell (W := (wr.alloc (.cells #[.int .i64 (F0 k), .int .i64 (F1 k), .int .i64 (F2 k), .int .i64 (F3 k), .int .i64 (F4 k), .int .i64 (F5 k)] 43))) (b := wr.heap.size) (o := 1) (u := .int .i64 (F1 k)) (by simp) (by simp)
        have y2 := Ext.cell (W := (wr.alloc (.cells #[.int .i64 (F0 k), .int .i64 (F1 k), .int .i64 (F2 k), .int .i64 (F3 k), .int .i64 (F4 k), .int .i64 (F5 k)] 43))) (b := wr.heap.size) (o := 2) (u := .int .i64 (F2 k)) (by simp) (by simp)
        have y3 := Ext.cell (W := (wr.alloc (.cells #[.int .i64 (F0 k), .int .i64 (F1 k), .int .i64 (F2 k), .int .i64 (F3 k), .int .i64 (F4 k), .int .i64 (F5 k)] 43))) (b := wr.heap.size) (o := 3) (u := .int .i64 (F3 k)) (by simp) (by simp)
        have y4 := Ext.cell (W := (wr.alloc (.cells #[.int .i64 (F0 k), .int .i64 (F1 k), .int .i64 (F2 k), .int .i64 (F3 k), .int .i64 (F4 k), .int .i64 (F5 k)] 43))) (b := wr.heap.size) (o := 4) (u := .int .i64 (F4 k)) (by simp) (by simp)
        have y5 := Ext.cell (W := (wr.alloc (.cells #[.int .i64 (F0 k), .int .i64 (F1 k), .int .i64 (F2 k), .int .i64 (F3 k), .int .i64 (F4 k), .int .i64 (F5 k)] 43))) (b := wr.heap.size) (o := 5) (u := .int .i64 (F5 k)) (by simp) (by simp)
        have u0 := Ext.cell (W := (wr.alloc (.cells #[.int .i64 (F0 k), .int .i64 (F1 k), .int .i64 (F2 k), .int .i64 (F3 k), .int .i64 (F4 k), .int .i64 (F5 k)] 43))) (b := g) (o := b * 6) (u := .int .i64 (F0 b)) (by rw [World.cell?_alloc_lt _ _ _ hgl]; exact d0) (by simp; omega)
        have u1 := Ext.cell (W := (wr.alloc (.cells #[.int .i64 (F0 k), .int .i64 (F1 k), .int .i64 (F2 k), .int .i64 (F3 k), .int .i64 (F4 k), .int .i64 (F5 k)] 43))) (b := g) (o := b * 6 + 1) (u := .int .i64 (F1 b)) (by rw [World.cell?_alloc_lt _ _ _ hgl]; exact d1) (by simp; omega)
        have u2 := Ext.cell (W := (wr.alloc (.cells #[.int .i64 (F0 k), .int .i64 (F1 k), .int .i64 (F2 k), .int .i64 (F3 k), .int .i64 (F4 k), .int .i64 (F5 k)] 43))) (b := g) (o := b * 6 + 2) (u := .int .i64 (F2 b)) (by rw [World.cell?_alloc_lt _ _ _ hgl]; exact d2) (by simp; omega)
        have u3 := Ext.cell (W := (wr.alloc (.cells #[.int .i64 (F0 k), .int .i64 (F1 k), .int .i64 (F2 k), .int .i64 (F3 k), .int .i64 (F4 k), .int .i64 (F5 k)] 43))) (b := g) (o := b * 6 + 3) (u := .int .i64 (F3 b)) (by rw [World.cell?_alloc_lt _ _ _ hgl]; exact d3) (by simp; omega)
        have u3b := Ext.cell (W := (wr.alloc (.cells #[.int .i64 (F0 k), .int .i64 (F1 k), .int .i64 (F2 k), .int .i64 (F3 k), .int .i64 (F4 k), .int .i64 (F5 k)] 43))) (b := g) (o := b * 6 + 2 + 1) (u := .int .i64 (F3 b)) (by rw [World.cell?_alloc_lt _ _ _ hgl]; exact d3) (by simp; omega)
        have u4 := Ext.cell (W := (wr.alloc (.cells #[.int .i64 (F0 k), .int .i64 (F1 k), .int .i64 (F2 k), .int .i64 (F3 k), .int .i64 (F4 k), .int .i64 (F5 k)] 43))) (b := g) (o := b * 6 + 4) (u := .int .i64 (F4 b)) (by rw [World.cell?_alloc_lt _ _ _ hgl]; exact d4) (by simp; omega)
        have u5 := Ext.cell (W := (wr.alloc (.cells #[.int .i64 (F0 k), .int .i64 (F1 k), .int .i64 (F2 k), .int .i64 (F3 k), .int .i64 (F4 k), .int .i64 (F5 k)] 43))) (b := g) (o := b * 6 + 5) (u := .int .i64 (F5 b)) (by rw [World.cell?_alloc_lt _ _ _ hgl]; exact d5) (by simp; omega)
        have u5b := Ext.cell (W := (wr.alloc (.cells #[.int .i64 (F0 k), .int .i64 (F1 k), .int .i64 (F2 k), .int .i64 (F3 k), .int .i64 (F4 k), .int .i64 (F5 k)] 43))) (b := g) (o := b * 6 + 4 + 1) (u := .int .i64 (F5 b)) (by rw [World.cell?_alloc_lt _ _ _ hgl]; exact d5) (by simp; omega)
        refine wp_region_ext (by kernel_rfl) (by kernel_rfl) ?_
        repeat (go_big_quiet_step ((go_at_call 32; exact ext_call (squared_any _ _ _ _ _))))
        refine wpQuiet_nil ?_
        intro W1 hx
        obtain ⟨x, hx⟩ := hx
        have hW1 := x.h
        rw [← hx] at hW1
        clear hx x y0 y1 y2 y3 y4 y5 u0 u1 u2 u3 u3b u4 u5 u5b
        have hbel2 := below_ext hbel hW1
        go_wp2
        go_roundw
        case rel => first | exact ⟨k + 1, b, by omega, by omega, by go_num, rfl, HB.out, hbel2⟩ | ((repeat apply Exists.intro); exact ⟨⟨k + 1, b, by omega, by omega, by go_num, rfl, HB.out, hbel2⟩, rfl⟩)
        case measure => simp [intOf]; omega
    · obtain rfl : k = n := by omega
      have hv := HV.out
      simp only [Prod.mk.injEq] at hv
      rw [← hbest.out] at hv
      go_wp2
      go_ret2
      exact ⟨by rw [← hv.1, ← hv.2]; rfl, hbel⟩
end Go.Proofs.Ytnfdodgecbibjaa
