/- The contracts of IsSmooth. -/
import Derived.Test.YtnfdodgecbibjaaArcL
import Derived.Test.YtnfdodgecbibjaaSums
import Derived.Test.YtnfdodgecbibjaaFirst
import Derived.Test.YtnfdodgecbibjaaOwn
import Derived.Test.YtnfdodgecbibjaaMore
namespace Go.Proofs.Ytnfdodgecbibjaa
open Go.RowKit
attribute [local go_sem ↓] Go.wp_at_zero Go.wp_at_succ
set_option linter.unusedVariables false

/-- The joint of two arcs and their centers lie on one line. -/
def smB (x0 x1 x4 x5 y0 y1 : Int) : Bool := decide (wrap64 (wrap64 (x0 - x4) * wrap64 (y1 - x5)) = wrap64 (wrap64 (x1 - x5) * wrap64 (y0 - x4)))

set_option maxHeartbeats 1000000 in
theorem smooth_any (x0 : Int) (x1 : Int) (x2 : Int) (x3 : Int) (x4 : Int) (x5 : Int) (y0 : Int) (y1 : Int) (y2 : Int) (y3 : Int) (y4 : Int) (y5 : Int) (w : World) :
    Calls Try.prog 46 #[.agg #[.int .i64 x0, .int .i64 x1, .int .i64 x2, .int .i64 x3, .int .i64 x4, .int .i64 x5], .agg #[.int .i64 y0, .int .i64 y1, .int .i64 y2, .int .i64 y3, .int .i64 y4, .int .i64 y5]] w fun e w' => e = .returned (.bool (smB x0 x1 x4 x5 y0 y1)) ∧ Below w.heap.size w w' := by
  go_enter Try.func46, Try.ntmps46
  go_wp2
  go_ret
  exact ⟨by unfold smB; first | rfl | (rw [Bool.eq_iff_iff]; simp), by repeat (first | exact below_new _ _ | exact (below_new _ _).alloc (by simp) _ | refine Below.alloc ?_ (by simp; try omega) _)⟩

set_option maxHeartbeats 2000000 in
theorem l05Smooth_any (b o b2 o2 : Nat) (x0 : Int) (x1 : Int) (x2 : Int) (x3 : Int) (x4 : Int) (x5 : Int) (y0 : Int) (y1 : Int) (y2 : Int) (y3 : Int) (y4 : Int) (y5 : Int) (w : World) (h0 : w.cell? ⟨b, o, none⟩ = some (.int .i64 x0)) (h1 : w.cell? ⟨b, o + 1, none⟩ = some (.int .i64 x1)) (h2 : w.cell? ⟨b, o + 2, none⟩ = some (.int .i64 x2)) (h3 : w.cell? ⟨b, o + 3, none⟩ = some (.int .i64 x3)) (h4 : w.cell? ⟨b, o + 4, none⟩ = some (.int .i64 x4)) (h5 : w.cell? ⟨b, o + 5, none⟩ = some (.int .i64 x5)) (k0 : w.cell? ⟨b2, o2, none⟩ = some (.int .i64 y0)) (k1 : w.cell? ⟨b2, o2 + 1, none⟩ = some (.int .i64 y1)) (k2 : w.cell? ⟨b2, o2 + 2, none⟩ = some (.int .i64 y2)) (k3 : w.cell? ⟨b2, o2 + 3, none⟩ = some (.int .i64 y3)) (k4 : w.cell? ⟨b2, o2 + 4, none⟩ = some (.int .i64 y4)) (k5 : w.cell? ⟨b2, o2 + 5, none⟩ = some (.int .i64 y5)) (hbl : b < w.heap.size) (hbl2 : b2 < w.heap.size) :
    Calls Try.prog 45 #[.pointer (some ⟨b, o, none⟩), .pointer (some ⟨b2, o2, none⟩)] w fun e w' => e = .returned (.bool (smB x0 x1 x4 x5 y0 y1)) ∧ Below w.heap.size w w' := by
  have h3b : w.cell? ⟨b, o + 2 + 1, none⟩ = some (.int .i64 x3) := h3
  have h5b : w.cell? ⟨b, o + 4 + 1, none⟩ = some (.int .i64 x5) := h5
  go_enter Try.func45, Try.ntmps45
  go_wp2
  go_big_quiet (fail)
  go_wp2
  go_big_quiet (fail)
  go_wp2
  go_big_quiet (fail)
  go_wp2
  go_big_quiet (fail)
  go_wp2
  go_ret
  exact ⟨by unfold smB; first | rfl | (rw [Bool.eq_iff_iff]; simp), by repeat (first | exact below_new _ _ | exact (below_new _ _).alloc (by simp) _ | refine below_drewN ?_ _ | refine Below.alloc ?_ (by simp; try omega) _)⟩

theorem infoInt : (Try.prog.info? 2).map (fun i => (i.zero, i.size, i.bytes)) = some (some (.int .i64 0), 1, 8) := by kernel_rfl

set_option maxHeartbeats 2000000 in
theorem l05Corners_any (g n : Nat) (F0 : Nat → Int) (F1 : Nat → Int) (F2 : Nat → Int) (F3 : Nat → Int) (F4 : Nat → Int) (F5 : Nat → Int)  (w : World) (t1 : TypeId) (hn : n ≤ 1048576) (h1 : w.rowIs g t1 (n * 6) (flat 6 (rowArc F0 F1 F2 F3 F4 F5)))   :
    Calls Try.prog 35 #[.slice (some ⟨g, 0, none⟩) n n] w fun e w' => ∃ ao cap, e = .returned (.slice ao (countP (fun k => !smB (F0 k) (F1 k) (F4 k) (F5 k) (F0 (nx n k)) (F1 (nx n k))) n) cap) ∧ Below w.heap.size w w' := by
  have hl1 := h1.lt
  have HR1 := Lib.hid (RdArc.of_row h1)
  have H1 := Lib.hid h1
  clear h1 
  obtain ⟨i0, hi, hz0, hz1, hz2⟩ := info_parts infoInt
  go_enter Try.func35, Try.ntmps35
  go_wp2
  go_loopw [3, 5] (fun v i wr => ∃ (k : Nat) (xs : List Value), k ≤ n ∧ i = .int .i64 k ∧ wr.ownsRow w.heap.size 2 1 v (countP (fun k => !smB (F0 k) (F1 k) (F4 k) (F5 k) (F0 (nx n k)) (F1 (nx n k))) k) xs ∧ Below w.heap.size w wr) (fun _ i _ => n - (intOf i).toNat)
  case atStart => exact ⟨0, _, Nat.zero_le _, rfl, World.ownsRow_lit w #[] 0 (Below.refl w.heap.size w).size (by decide) rfl, (Below.refl w.heap.size w).alloc (Below.refl w.heap.size w).size _⟩
  case round =>
    obtain ⟨k, xs, hk, rfl, hown, hbel⟩ := hrel
    have hgl : g < wr.heap.size := Nat.lt_of_lt_of_le hl1 hbel.size
    by_cases hlt : k < n
    · have hlti : (k : Int) < (n : Int) := by omega
      have hki : (0 : Int) ≤ (k : Int) := by omega
      obtain ⟨c0, c1, c2, c3, c4, c5⟩ := HR1.out k hlt
      have hbc := bcell hbel
      rw [← hbc _ _ hl1] at c0 c1 c2 c3 c4 c5
      simp only [Nat.zero_add] at c0 c1 c2 c3 c4 c5
      clear hbc
      obtain ⟨j, hj⟩ : ∃ j, nx n k = j := ⟨_, rfl⟩
      have hjn : j < n := hj ▸ nx_lt hlt
      have hm : ((k : Int) + 1) % (n : Int) = (j : Int) := hj ▸ nx_mod hlt
      have hj0 : (0 : Int) ≤ (j : Int) := by omega
      have hji : (j : Int) < (n : Int) := by omega
      have HJ := Lib.hid hj
      clear hj
      have HO := Lib.hid hown
      clear hown
      have hcl := count_le (fun k => !smB (F0 k) (F1 k) (F4 k) (F5 k) (F0 (nx n k)) (F1 (nx n k))) k
      obtain ⟨d0, d1, d2, d3, d4, d5⟩ := HR1.out j hjn
      rw [← bcell hbel _ _ hl1] at d0 d1 d2 d3 d4 d5
      simp only [Nat.zero_add] at d0 d1 d2 d3 d4 d5
      by_cases hs : smB (F0 k) (F1 k) (F4 k) (F5 k) (F0 j) (F1 j) = true
      · have HC := Lib.hid (show countP (fun k => !smB (F0 k) (F1 k) (F4 k) (F5 k) (F0 (nx n k)) (F1 (nx n k))) (k + 1) = countP (fun k => !smB (F0 k) (F1 k) (F4 k) (F5 k) (F0 (nx n k)) (F1 (nx n k))) k from count_no (by show (!smB _ _ _ _ _ _) = false; rw [HJ.out, hs]; rfl))
        go_wp2
        have y0 := Ext.cell (W := wr) (b := g) (o := k * 6) (u := .int .i64 (F0 k)) c0 hgl
        have y1 := Ext.cell (W := wr) (b := g) (o := k * 6 + 1) (u := .int .i64 (F1 k)) c1 hgl
        have y2 := Ext.cell (W := wr) (b := g) (o := k * 6 + 2) (u := .int .i64 (F2 k)) c2 hgl
        have y3 := Ext.cell (W := wr) (b := g) (o := k * 6 + 3) (u := .int .i64 (F3 k)) c3 hgl
        have y3b := Ext.cell (W := wr) (b := g) (o := k * 6 + 2 + 1) (u := .int .i64 (F3 k)) c3 hgl
        have y4 := Ext.cell (W := wr) (b := g) (o := k * 6 + 4) (u := .int .i64 (F4 k)) c4 hgl
        have y5 := Ext.cell (W := wr) (b := g) (o := k * 6 + 5) (u := .int .i64 (F5 k)) c5 hgl
        have y5b := Ext.cell (W := wr) (b := g) (o := k * 6 + 4 + 1) (u := .int .i64 (F5 k)) c5 hgl
        have u0 := Ext.cell (W := wr) (b := g) (o := j * 6) (u := .int .i64 (F0 j)) d0 hgl
        have u1 := Ext.cell (W := wr) (b := g) (o := j * 6 + 1) (u := .int .i64 (F1 j)) d1 hgl
        have u2 := Ext.cell (W := wr) (b := g) (o := j * 6 + 2) (u := .int .i64 (F2 j)) d2 hgl
        have u3 := Ext.cell (W := wr) (b := g) (o := j * 6 + 3) (u := .int .i64 (F3 j)) d3 hgl
        have u3b := Ext.cell (W := wr) (b := g) (o := j * 6 + 2 + 1) (u := .int .i64 (F3 j)) d3 hgl
        have u4 := Ext.cell (W := wr) (b := g) (o := j * 6 + 4) (u := .int .i64 (F4 j)) d4 hgl
        have u5 := Ext.cell (W := wr) (b := g) (o := j * 6 + 5) (u := .int .i64 (F5 j)) d5 hgl
        have u5b := Ext.cell (W := wr) (b := g) (o := j * 6 + 4 + 1) (u := .int .i64 (F5 j)) d5 hgl
        refine wp_region_ext (by kernel_rfl) (by kernel_rfl) ?_
        repeat (go_big_quiet_step ((go_at_call 45; exact ext_call (calls_b (l05Smooth_any _ _ _ _ _ _ _ _ _ _ _ _ _ _ _ _ _ (y0 _) (y1 _) (y2 _) (y3 _) (y4 _) (y5 _) (u0 _) (u1 _) (u2 _) (u3 _) (u4 _) (u5 _) (Nat.lt_of_lt_of_le hgl (Ext.h _).size) (Nat.lt_of_lt_of_le hgl (Ext.h _).size)) hs))))
        refine wpQuiet_nil ?_
        intro W1 hx
        obtain ⟨x, hx⟩ := hx
        have hW1 := x.h
        rw [← hx] at hW1
        clear hx x y0 y1 y2 y3 y3b y4 y5 y5b u0 u1 u2 u3 u3b u4 u5 u5b
        have hbel2 := hbel.trans (hW1.mono hbel.size)
        have HO1 := Lib.hid (own_below HO.out hW1)
        go_wp2
        go_roundw
        case rel => first | exact ⟨k + 1, _, by omega, by go_num, by rw [HC.out]; exact HO1.out, hbel2⟩ | ((repeat apply Exists.intro); exact ⟨⟨k + 1, _, by omega, by go_num, by rw [HC.out]; exact HO1.out, hbel2⟩, rfl⟩)
        case measure => simp [intOf]; omega
      · have hs2 : smB (F0 k) (F1 k) (F4 k) (F5 k) (F0 j) (F1 j) = false := by simpa using hs
        clear hs
        have HC := Lib.hid (show countP (fun k => !smB (F0 k) (F1 k) (F4 k) (F5 k) (F0 (nx n k)) (F1 (nx n k))) (k + 1) = countP (fun k => !smB (F0 k) (F1 k) (F4 k) (F5 k) (F0 (nx n k)) (F1 (nx n k))) k + 1 from count_yes (by show (!smB _ _ _ _ _ _) = true; rw [HJ.out, hs2]; rfl))
        go_wp2
        have y0 := Ext.cell (W := wr) (b := g) (o := k * 6) (u := .int .i64 (F0 k)) c0 hgl
        have y1 := Ext.cell (W := wr) (b := g) (o := k * 6 + 1) (u := .int .i64 (F1 k)) c1 hgl
        have y2 := Ext.cell (W := wr) (b := g) (o := k * 6 + 2) (u := .int .i64 (F2 k)) c2 hgl
        have y3 := Ext.cell (W := wr) (b := g) (o := k * 6 + 3) (u := .int .i64 (F3 k)) c3 hgl
        have y3b := Ext.cell (W := wr) (b := g) (o := k * 6 + 2 + 1) (u := .int .i64 (F3 k)) c3 hgl
        have y4 := Ext.cell (W := wr) (b := g) (o := k * 6 + 4) (u := .int .i64 (F4 k)) c4 hgl
        have y5 := Ext.cell (W := wr) (b := g) (o := k * 6 + 5) (u := .int .i64 (F5 k)) c5 hgl
        have y5b := Ext.cell (W := wr) (b := g) (o := k * 6 + 4 + 1) (u := .int .i64 (F5 k)) c5 hgl
        have u0 := Ext.cell (W := wr) (b := g) (o := j * 6) (u := .int .i64 (F0 j)) d0 hgl
        have u1 := Ext.cell (W := wr) (b := g) (o := j * 6 + 1) (u := .int .i64 (F1 j)) d1 hgl
        have u2 := Ext.cell (W := wr) (b := g) (o := j * 6 + 2) (u := .int .i64 (F2 j)) d2 hgl
        have u3 := Ext.cell (W := wr) (b := g) (o := j * 6 + 3) (u := .int .i64 (F3 j)) d3 hgl
        have u3b := Ext.cell (W := wr) (b := g) (o := j * 6 + 2 + 1) (u := .int .i64 (F3 j)) d3 hgl
        have u4 := Ext.cell (W := wr) (b := g) (o := j * 6 + 4) (u := .int .i64 (F4 j)) d4 hgl
        have u5 := Ext.cell (W := wr) (b := g) (o := j * 6 + 5) (u := .int .i64 (F5 j)) d5 hgl
        have u5b := Ext.cell (W := wr) (b := g) (o := j * 6 + 4 + 1) (u := .int .i64 (F5 j)) d5 hgl
        refine wp_region_ext (by kernel_rfl) (by kernel_rfl) ?_
        repeat (go_big_quiet_step ((go_at_call 45; exact ext_call (calls_b (l05Smooth_any _ _ _ _ _ _ _ _ _ _ _ _ _ _ _ _ _ (y0 _) (y1 _) (y2 _) (y3 _) (y4 _) (y5 _) (u0 _) (u1 _) (u2 _) (u3 _) (u4 _) (u5 _) (Nat.lt_of_lt_of_le hgl (Ext.h _).size) (Nat.lt_of_lt_of_le hgl (Ext.h _).size)) hs2))))
        refine wpQuiet_nil ?_
        intro W1 hx
        obtain ⟨x, hx⟩ := hx
        have hW1 := x.h
        rw [← hx] at hW1
        clear hx x y0 y1 y2 y3 y3b y4 y5 y5b u0 u1 u2 u3 u3b u4 u5 u5b
        have hbel2 := hbel.trans (hW1.mono hbel.size)
        have HO1 := Lib.hid (own_below HO.out hW1)
        have hB1 := hbel2.size
        go_wp2_with (at_builtin; refine wpList_append_own _ rfl _ _ 30 rfl w.heap.size 2 i0 (.int .i64 0) 1 8 Try.underlying30 hi hz0 hz1 hz2 rfl (by decide) _ _ _ rfl (HO1.out.alloc _) ⟨W1.heap.size, 0, none⟩ 1 1 [.int .i64 (k : Int)] rfl rfl (one_new _ _ _) ?c2 ?c3 ?c4 ?c5 ?_)
        case c2 => intro u hu; simp at hu; subst hu; rfl
        case c3 => unfold maxLen; omega
        case c4 => omega
        case c5 => simp; omega
        · intro v2 w2 hown2 hgrow _
          have hbel3 := below_grown hbel2 HO1.out hgrow
          have HO2 := Lib.hid hown2
          clear hown2 hgrow HO HO1
          go_wp2
          go_roundw
          case rel => first | exact ⟨k + 1, _, by omega, by go_num, by rw [HC.out]; exact HO2.out, hbel3⟩ | ((repeat apply Exists.intro); exact ⟨⟨k + 1, _, by omega, by go_num, by rw [HC.out]; exact HO2.out, hbel3⟩, rfl⟩)
          case measure => simp [intOf]; omega
    · obtain rfl : k = n := by omega
      obtain ⟨ao, cap, rfl⟩ := own_shape hown
      go_wp2
      go_ret
      exact ⟨_, _, rfl, hbel⟩

set_option maxHeartbeats 2000000 in
theorem CornersOf_yes (g n : Nat) (F0 : Nat → Int) (F1 : Nat → Int) (F2 : Nat → Int) (F3 : Nat → Int) (F4 : Nat → Int) (F5 : Nat → Int)  (w : World) (t1 : TypeId) (hn : n ≤ 1048576) (h1 : w.rowIs g t1 (n * 6) (flat 6 (rowArc F0 F1 F2 F3 F4 F5)))  (e0 : listArc n F0 F1 F2 F3 F4 F5 = true) :
    Calls Try.prog 36 #[.slice (some ⟨g, 0, none⟩) n n] w fun e w' => ∃ ao cap, e = .returned (.tuple #[.slice ao (countP (fun k => !smB (F0 k) (F1 k) (F4 k) (F5 k) (F0 (nx n k)) (F1 (nx n k))) n) cap, .int .i64 0]) ∧ Below w.heap.size w w' := by
  have hl1 := h1.lt
  have HR1 := Lib.hid (RdArc.of_row h1)
  have H1 := Lib.hid h1
  clear h1 
  obtain ⟨i0, hi, hz0, hz1, hz2⟩ := info_parts infoInt
  obtain ⟨hn2, hn16⟩ := listArc_n e0
  go_enter Try.func36, Try.ntmps36
  go_wp2_with fail
  refine (ValidArcs_any _ _ F0 F1 F2 F3 F4 F5 _ _ hn H1.out).mono ?_
  rintro e w1 ⟨rfl, hb1⟩
  go_wp2
  go_loopw [4, 13] (fun v i wr => ∃ (k : Nat) (xs : List Value), k ≤ n ∧ i = .int .i64 k ∧ wr.ownsRow w.heap.size 2 1 v (countP (fun k => !smB (F0 k) (F1 k) (F4 k) (F5 k) (F0 (nx n k)) (F1 (nx n k))) k) xs ∧ Below w.heap.size w wr) (fun _ i _ => n - (intOf i).toNat)
  case atStart => exact ⟨0, _, Nat.zero_le _, rfl, World.ownsRow_lit w1 #[] 0 hb1.size (by decide) rfl, hb1.alloc hb1.size _⟩
  case round =>
    obtain ⟨k, xs, hk, rfl, hown, hbel⟩ := hrel
    have hgl : g < wr.heap.size := Nat.lt_of_lt_of_le hl1 hbel.size
    by_cases hlt : k < n
    · have hlti : (k : Int) < (n : Int) := by omega
      have hki : (0 : Int) ≤ (k : Int) := by omega
      obtain ⟨c0, c1, c2, c3, c4, c5⟩ := HR1.out k hlt
      have hbc := bcell hbel
      rw [← hbc _ _ hl1] at c0 c1 c2 c3 c4 c5
      simp only [Nat.zero_add] at c0 c1 c2 c3 c4 c5
      clear hbc
      obtain ⟨j, hj⟩ : ∃ j, nx n k = j := ⟨_, rfl⟩
      have hjn : j < n := hj ▸ nx_lt hlt
      have hm : ((k : Int) + 1) % (n : Int) = (j : Int) := hj ▸ nx_mod hlt
      have hj0 : (0 : Int) ≤ (j : Int) := by omega
      have hji : (j : Int) < (n : Int) := by omega
      have HJ := Lib.hid hj
      clear hj
      have HO := Lib.hid hown
      clear hown
      have hcl := count_le (fun k => !smB (F0 k) (F1 k) (F4 k) (F5 k) (F0 (nx n k)) (F1 (nx n k))) k
      have HRa := Lib.hid ((row_below H1.out hbel hl1).alloc (.cells #[.int .i64 (F0 k), .int .i64 (F1 k), .int .i64 (F2 k), .int .i64 (F3 k), .int .i64 (F4 k), .int .i64 (F5 k)] 43))
      by_cases hs : smB (F0 k) (F1 k) (F4 k) (F5 k) (F0 j) (F1 j) = true
      · have HC := Lib.hid (show countP (fun k => !smB (F0 k) (F1 k) (F4 k) (F5 k) (F0 (nx n k)) (F1 (nx n k))) (k + 1) = countP (fun k => !smB (F0 k) (F1 k) (F4 k) (F5 k) (F0 (nx n k)) (F1 (nx n k))) k from count_no (by show (!smB _ _ _ _ _ _) = false; rw [HJ.out, hs]; rfl))
        go_wp2
        have y0 := Ext.cell (W := (wr.alloc (.cells #[.int .i64 (F0 k), .int .i64 (F1 k), .int .i64 (F2 k), .int .i64 (F3 k), .int .i64 (F4 k), .int .i64 (F5 k)] 43))) (b := wr.heap.size) (o := 0) (u := .int .i64 (F0 k)) (by simp) (by simp)
        have y1 := Ext.cell (W := (wr.alloc (.cells #[.int .i64 (F0 k), .int .i64 (F1 k), .int .i64 (F2 k), .int .i64 (F3 k), .int .i64 (F4 k), .int .i64 (F5 k)] 43))) (b := wr.heap.size) (o := 1) (u := .int .i64 (F1 k)) (by simp) (by simp)
        have y2 := Ext.cell (W := (wr.alloc (.cells #[.int .i64 (F0 k), .int .i64 (F1 k), .int .i64 (F2 k), .int .i64 (F3 k), .int .i64 (F4 k), .int .i64 (F5 k)] 43))) (b := wr.heap.size) (o := 2) (u := .int .i64 (F2 k)) (by simp) (by simp)
        have y3 := Ext.cell (W := (wr.alloc (.cells #[.int .i64 (F0 k), .int .i64 (F1 k), .int .i64 (F2 k), .int .i64 (F3 k), .int .i64 (F4 k), .int .i64 (F5 k)] 43))) (b := wr.heap.size) (o := 3) (u := .int .i64 (F3 k)) (by simp) (by simp)
        have y4 := Ext.cell (W := (wr.alloc (.cells #[.int .i64 (F0 k), .int .i64 (F1 k), .int .i64 (F2 k), .int .i64 (F3 k), .int .i64 (F4 k), .int .i64 (F5 k)] 43))) (b := wr.heap.size) (o := 4) (u := .int .i64 (F4 k)) (by simp) (by simp)
        have y5 := Ext.cell (W := (wr.alloc (.cells #[.int .i64 (F0 k), .int .i64 (F1 k), .int .i64 (F2 k), .int .i64 (F3 k), .int .i64 (F4 k), .int .i64 (F5 k)] 43))) (b := wr.heap.size) (o := 5) (u := .int .i64 (F5 k)) (by simp) (by simp)
        refine wp_region_ext (by kernel_rfl) (by kernel_rfl) ?_
        repeat (go_big_quiet_step (first | (go_at_call 42; exact ext_call (next_any g n k j F0 F1 F2 F3 F4 F5 _ t1 hn hlt hjn hm (Ext.row HRa.out _))) | (go_at_call 46; exact ext_call (calls_b (smooth_any _ _ _ _ _ _ _ _ _ _ _ _ _) hs))))
        refine wpQuiet_nil ?_
        intro W1 hx
        obtain ⟨x, hx⟩ := hx
        have hW1 := x.h
        rw [← hx] at hW1
        clear hx x y0 y1 y2 y3 y4 y5
        have hbel2 := below_ext hbel hW1
        have HO1 := Lib.hid (own_below (HO.out.alloc _) hW1)
        go_wp2
        go_roundw
        case rel => first | exact ⟨k + 1, _, by omega, by go_num, by rw [HC.out]; exact HO1.out, hbel2⟩ | ((repeat apply Exists.intro); exact ⟨⟨k + 1, _, by omega, by go_num, by rw [HC.out]; exact HO1.out, hbel2⟩, rfl⟩)
        case measure => simp [intOf]; omega
      · have hs2 : smB (F0 k) (F1 k) (F4 k) (F5 k) (F0 j) (F1 j) = false := by simpa using hs
        clear hs
        have HC := Lib.hid (show countP (fun k => !smB (F0 k) (F1 k) (F4 k) (F5 k) (F0 (nx n k)) (F1 (nx n k))) (k + 1) = countP (fun k => !smB (F0 k) (F1 k) (F4 k) (F5 k) (F0 (nx n k)) (F1 (nx n k))) k + 1 from count_yes (by show (!smB _ _ _ _ _ _) = true; rw [HJ.out, hs2]; rfl))
        go_wp2
        have y0 := Ext.cell (W := (wr.alloc (.cells #[.int .i64 (F0 k), .int .i64 (F1 k), .int .i64 (F2 k), .int .i64 (F3 k), .int .i64 (F4 k), .int .i64 (F5 k)] 43))) (b := wr.heap.size) (o := 0) (u := .int .i64 (F0 k)) (by simp) (by simp)
        have y1 := Ext.cell (W := (wr.alloc (.cells #[.int .i64 (F0 k), .int .i64 (F1 k), .int .i64 (F2 k), .int .i64 (F3 k), .int .i64 (F4 k), .int .i64 (F5 k)] 43))) (b := wr.heap.size) (o := 1) (u := .int .i64 (F1 k)) (by simp) (by simp)
        have y2 := Ext.cell (W := (wr.alloc (.cells #[.int .i64 (F0 k), .int .i64 (F1 k), .int .i64 (F2 k), .int .i64 (F3 k), .int .i64 (F4 k), .int .i64 (F5 k)] 43))) (b := wr.heap.size) (o := 2) (u := .int .i64 (F2 k)) (by simp) (by simp)
        have y3 := Ext.cell (W := (wr.alloc (.cells #[.int .i64 (F0 k), .int .i64 (F1 k), .int .i64 (F2 k), .int .i64 (F3 k), .int .i64 (F4 k), .int .i64 (F5 k)] 43))) (b := wr.heap.size) (o := 3) (u := .int .i64 (F3 k)) (by simp) (by simp)
        have y4 := Ext.cell (W := (wr.alloc (.cells #[.int .i64 (F0 k), .int .i64 (F1 k), .int .i64 (F2 k), .int .i64 (F3 k), .int .i64 (F4 k), .int .i64 (F5 k)] 43))) (b := wr.heap.size) (o := 4) (u := .int .i64 (F4 k)) (by simp) (by simp)
        have y5 := Ext.cell (W := (wr.alloc (.cells #[.int .i64 (F0 k), .int .i64 (F1 k), .int .i64 (F2 k), .int .i64 (F3 k), .int .i64 (F4 k), .int .i64 (F5 k)] 43))) (b := wr.heap.size) (o := 5) (u := .int .i64 (F5 k)) (by simp) (by simp)
        refine wp_region_ext (by kernel_rfl) (by kernel_rfl) ?_
        repeat (go_big_quiet_step (first | (go_at_call 42; exact ext_call (next_any g n k j F0 F1 F2 F3 F4 F5 _ t1 hn hlt hjn hm (Ext.row HRa.out _))) | (go_at_call 46; exact ext_call (calls_b (smooth_any _ _ _ _ _ _ _ _ _ _ _ _ _) hs2))))
        refine wpQuiet_nil ?_
        intro W1 hx
        obtain ⟨x, hx⟩ := hx
        have hW1 := x.h
        rw [← hx] at hW1
        clear hx x y0 y1 y2 y3 y4 y5
        have hbel2 := below_ext hbel hW1
        have HO1 := Lib.hid (own_below (HO.out.alloc _) hW1)
        have hB1 := hbel2.size
        go_wp2_with (at_builtin; refine wpList_append_own _ rfl _ _ 30 rfl w.heap.size 2 i0 (.int .i64 0) 1 8 Try.underlying30 hi hz0 hz1 hz2 rfl (by decide) _ _ _ rfl (HO1.out.alloc _) ⟨W1.heap.size, 0, none⟩ 1 1 [.int .i64 (k : Int)] rfl rfl (one_new _ _ _) ?c2 ?c3 ?c4 ?c5 ?_)
        case c2 => intro u hu; simp at hu; subst hu; rfl
        case c3 => unfold maxLen; omega
        case c4 => omega
        case c5 => simp; omega
        · intro v2 w2 hown2 hgrow _
          have hbel3 := below_grown hbel2 HO1.out hgrow
          have HO2 := Lib.hid hown2
          clear hown2 hgrow HO HO1
          go_wp2
          go_roundw
          case rel => first | exact ⟨k + 1, _, by omega, by go_num, by rw [HC.out]; exact HO2.out, hbel3⟩ | ((repeat apply Exists.intro); exact ⟨⟨k + 1, _, by omega, by go_num, by rw [HC.out]; exact HO2.out, hbel3⟩, rfl⟩)
          case measure => simp [intOf]; omega
    · obtain rfl : k = n := by omega
      obtain ⟨ao, cap, rfl⟩ := own_shape hown
      go_wp2
      go_ret2
      exact ⟨_, _, rfl, hbel⟩

set_option maxHeartbeats 2000000 in
theorem CornersOf_no (g n : Nat) (F0 : Nat → Int) (F1 : Nat → Int) (F2 : Nat → Int) (F3 : Nat → Int) (F4 : Nat → Int) (F5 : Nat → Int)  (w : World) (t1 : TypeId) (hn : n ≤ 1048576) (h1 : w.rowIs g t1 (n * 6) (flat 6 (rowArc F0 F1 F2 F3 F4 F5)))  (e0 : listArc n F0 F1 F2 F3 F4 F5 = false) :
    Calls Try.prog 36 #[.slice (some ⟨g, 0, none⟩) n n] w fun e w' => e = .returned (.tuple #[.slice none 0 0, .int .i64 1]) ∧ Below w.heap.size w w' := by
  have hl1 := h1.lt
  have HR1 := Lib.hid (RdArc.of_row h1)
  have H1 := Lib.hid h1
  clear h1 
  go_enter Try.func36, Try.ntmps36
  go_wp2_with fail
  refine (ValidArcs_any _ _ F0 F1 F2 F3 F4 F5 _ _ hn H1.out).mono ?_
  rintro e w1 ⟨rfl, hb1⟩
  go_wp2
  go_ret2
  exact ⟨rfl, hb1⟩

/-- An outline without corners. -/
def smoothB (n : Nat) (F0 : Nat → Int) (F1 : Nat → Int) (F2 : Nat → Int) (F3 : Nat → Int) (F4 : Nat → Int) (F5 : Nat → Int) : Bool := listArc n F0 F1 F2 F3 F4 F5 && decide (countP (fun k => !smB (F0 k) (F1 k) (F4 k) (F5 k) (F0 (nx n k)) (F1 (nx n k))) n = 0)

set_option maxHeartbeats 2000000 in
theorem specIsSmooth_any (g n : Nat) (F0 : Nat → Int) (F1 : Nat → Int) (F2 : Nat → Int) (F3 : Nat → Int) (F4 : Nat → Int) (F5 : Nat → Int) (v : Bool) (w : World) (t1 : TypeId) (hn : n ≤ 1048576) (h1 : w.rowIs g t1 (n * 6) (flat 6 (rowArc F0 F1 F2 F3 F4 F5)))  (hv : smoothB n F0 F1 F2 F3 F4 F5 = v) :
    Calls Try.prog 21 #[.slice (some ⟨g, 0, none⟩) n n] w fun e w' => e = .returned (.bool v) ∧ Below w.heap.size w w' := by
  have hl1 := h1.lt
  have HR1 := Lib.hid (RdArc.of_row h1)
  have H1 := Lib.hid h1
  clear h1 
  by_cases e0 : listArc n F0 F1 F2 F3 F4 F5 = true
  case neg =>
    have e0n : listArc n F0 F1 F2 F3 F4 F5 = false := by simpa using e0
    obtain rfl : v = false := by rw [← hv]; unfold smoothB; rw [e0n]; rfl
    clear hv e0
    go_enter Try.func21, Try.ntmps21
    go_wp2_with fail
    refine (OkArc_any _ _ F0 F1 F2 F3 F4 F5 _ _ hn H1.out).mono ?_
    rintro e w1 ⟨rfl, hb1⟩
    go_wp2
    go_ret
    exact ⟨rfl, hb1⟩
  replace hv : decide (countP (fun k => !smB (F0 k) (F1 k) (F4 k) (F5 k) (F0 (nx n k)) (F1 (nx n k))) n = 0) = v := by unfold smoothB at hv; rw [e0] at hv; simpa using hv
  obtain ⟨c, hc⟩ : ∃ c, countP (fun k => !smB (F0 k) (F1 k) (F4 k) (F5 k) (F0 (nx n k)) (F1 (nx n k))) n = c := ⟨_, rfl⟩
  rw [hc] at hv
  have HC := Lib.hid hc
  clear hc
  have hcn : c ≤ n := by rw [← HC.out]; exact count_le _ _
  have HE := Lib.hid e0
  have hvi : ((c : Int) == 0) = v := by rw [← hv, Bool.eq_iff_iff]; simp
  have HV := Lib.hid hvi
  clear hv hvi
  go_enter Try.func21, Try.ntmps21
  go_wp2_with fail
  refine (OkArc_any _ _ F0 F1 F2 F3 F4 F5 _ _ hn H1.out).mono ?_
  rintro e w1 ⟨rfl, hb1⟩
  have H2 := Lib.hid (row_below H1.out hb1 H1.out.lt)
  go_wp2_with fail
  refine (l05Corners_any _ _ F0 F1 F2 F3 F4 F5 _ _ hn H2.out).mono ?_
  rintro e w2 ⟨ao, cap, rfl, hb2⟩
  rw [HC.out]
  go_wp2
  go_ret
  exact ⟨by rw [← HV.out]; rfl, hb1.trans (hb2.mono hb1.size)⟩

set_option maxHeartbeats 2000000 in
theorem implIsSmooth_any (g n : Nat) (F0 : Nat → Int) (F1 : Nat → Int) (F2 : Nat → Int) (F3 : Nat → Int) (F4 : Nat → Int) (F5 : Nat → Int) (v : Bool) (w : World) (t1 : TypeId) (hn : n ≤ 1048576) (h1 : w.rowIs g t1 (n * 6) (flat 6 (rowArc F0 F1 F2 F3 F4 F5)))  (hv : smoothB n F0 F1 F2 F3 F4 F5 = v) :
    Calls Try.prog 22 #[.slice (some ⟨g, 0, none⟩) n n] w fun e w' => e = .returned (.bool v) ∧ Below w.heap.size w w' := by
  have hl1 := h1.lt
  have HR1 := Lib.hid (RdArc.of_row h1)
  have H1 := Lib.hid h1
  clear h1 
  by_cases e0 : listArc n F0 F1 F2 F3 F4 F5 = true
  case neg =>
    have e0n : listArc n F0 F1 F2 F3 F4 F5 = false := by simpa using e0
    obtain rfl : v = false := by rw [← hv]; unfold smoothB; rw [e0n]; rfl
    clear hv e0
    go_enter Try.func22, Try.ntmps22
    go_wp2_with fail
    refine (CornersOf_no _ _ F0 F1 F2 F3 F4 F5 _ _ hn H1.out e0n).mono ?_
    rintro e w1 ⟨rfl, hb1⟩
    go_wp2
    go_ret
    exact ⟨rfl, hb1⟩
  replace hv : decide (countP (fun k => !smB (F0 k) (F1 k) (F4 k) (F5 k) (F0 (nx n k)) (F1 (nx n k))) n = 0) = v := by unfold smoothB at hv; rw [e0] at hv; simpa using hv
  obtain ⟨c, hc⟩ : ∃ c, countP (fun k => !smB (F0 k) (F1 k) (F4 k) (F5 k) (F0 (nx n k)) (F1 (nx n k))) n = c := ⟨_, rfl⟩
  rw [hc] at hv
  have HC := Lib.hid hc
  clear hc
  have hcn : c ≤ n := by rw [← HC.out]; exact count_le _ _
  have HE := Lib.hid e0
  have hvi : ((c : Int) == 0) = v := by rw [← hv, Bool.eq_iff_iff]; simp
  have HV := Lib.hid hvi
  clear hv hvi
  go_enter Try.func22, Try.ntmps22
  go_wp2_with fail
  refine (CornersOf_yes _ _ F0 F1 F2 F3 F4 F5 _ _ hn H1.out HE.out).mono ?_
  rintro e w2 ⟨ao, cap, rfl, hb2⟩
  rw [HC.out]
  go_wp2
  go_ret
  exact ⟨by rw [← HV.out]; rfl, hb2⟩
end Go.Proofs.Ytnfdodgecbibjaa
