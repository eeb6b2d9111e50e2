/- The contracts of CrossAt. -/
import Derived.Test.YtabdpfagfempjaaPay
import Derived.Test.YtabdpfagfempjaaFirst
namespace Go.Proofs.Ytabdpfagfempjaa
open Go.RowKit
attribute [local go_sem ↓] Go.wp_at_zero Go.wp_at_succ
set_option linter.unusedVariables false

set_option linter.unusedSimpArgs false
theorem cell_new {w : World} {o : Obj} {b off : Nat} {u : Value} (h : w.cell? ⟨b, off, none⟩ = some u) (hb : b < w.heap.size) : (w.alloc o).cell? ⟨b, off, none⟩ = some u := by
  rw [World.cell?_alloc_lt _ _ _ hb]; exact h

@[local go_sem high] theorem run_max_int4 {P : Program} (w : World) (ts : Array TypeId) (t : TypeId) (k k1 k2 k3 : IntKind) (x y z u : Int) : (Builtin.max_ ts t #[.int k x, .int k1 y, .int k2 z, .int k3 u]).run P w = .ok (.int k (max (max (max x y) z) u)) w := by
  have e : ∀ a b : Int, max a b = if b > a then b else a := fun a b => by split <;> omega
  rw [e, e, e]
  simp [Builtin.max_, Builtin.max2]

/-- The cost of a year with one damage. -/
def costV (x1 x2 x3 x4 d : Int) : Int := wrap64 (x1 + wrap64 (d - paidV x2 x3 x4 d))

theorem row_one (w : World) (d : Int) (t : TypeId) : (w.alloc (.cells #[.int .i64 d] t)).rowIs w.heap.size t 1 (rowInts fun _ => d) :=
  World.rowIs_alloc w #[.int .i64 d] t _ (fun i hi => by
    match i, hi with
    | 0, _ => rfl)

theorem row_drew {w : World} {g n : Nat} {t : TypeId} {f : Nat → Value} (h : w.rowIs g t n f) : w.drew.rowIs g t n f := row_below h (Below.refl _ _).drew h.lt

theorem row_two1 (w : World) (d : Int) (t : TypeId) (o : Obj) : ((w.alloc (.cells #[.int .i64 d] t)).alloc o).rowIs w.heap.size t 1 (rowInts fun _ => d) := row_below (row_one w d t) (below_new _ _) (by simp)

theorem row_two2 (w : World) (d : Int) (t : TypeId) (o : Obj) : ((w.alloc o).alloc (.cells #[.int .i64 d] t)).rowIs (w.heap.size + 1) t 1 (rowInts fun _ => d) := by simpa using row_one (w.alloc o) d t

theorem chain0 {B : Nat} {a w w1 : World} (h : Below B a w) (hb : Below w.heap.size w w1) (hB : B ≤ a.heap.size := by exact Nat.le_refl _) : Below B a w1 := h.trans (hb.mono (Nat.le_trans hB h.size))

theorem chaind {B : Nat} {a w w1 : World} (h : Below B a w) (hb : Below w.drew.heap.size w.drew w1) (hB : B ≤ a.heap.size := by exact Nat.le_refl _) : Below B a w1 := chain0 h.drew hb hB

theorem chain1 {B : Nat} {a w w1 : World} {o : Obj} (h : Below B a w) (hb : Below (w.alloc o).heap.size (w.alloc o) w1) (hB : B ≤ a.heap.size := by exact Nat.le_refl _) : Below B a w1 := chain0 (h.alloc (Nat.le_trans hB h.size) _) hb hB

theorem chain1d {B : Nat} {a w w1 : World} {o : Obj} (h : Below B a w) (hb : Below (w.alloc o).drew.heap.size (w.alloc o).drew w1) (hB : B ≤ a.heap.size := by exact Nat.le_refl _) : Below B a w1 := chaind (h.alloc (Nat.le_trans hB h.size) _) hb hB

theorem chain2 {B : Nat} {a w w1 : World} {o o2 : Obj} (h : Below B a w) (hb : Below ((w.alloc o).alloc o2).heap.size ((w.alloc o).alloc o2) w1) (hB : B ≤ a.heap.size := by exact Nat.le_refl _) : Below B a w1 := chain1 (h.alloc (Nat.le_trans hB h.size) _) hb hB

theorem chain2d {B : Nat} {a w w1 : World} {o o2 : Obj} (h : Below B a w) (hb : Below ((w.alloc o).alloc o2).drew.heap.size ((w.alloc o).alloc o2).drew w1) (hB : B ≤ a.heap.size := by exact Nat.le_refl _) : Below B a w1 := chain1d (h.alloc (Nat.le_trans hB h.size) _) hb hB

theorem cost_one (x0 : ByteArray) (x1 : Int) (x2 : Int) (x3 : Int) (x4 : Int) (g : Nat) (d : Int) (t1 : TypeId) (w : World) (h1 : w.rowIs g t1 1 (rowInts fun _ => d)) :
    Calls Try.prog 80 #[.agg #[.string x0, .int .i64 x1, .int .i64 x2, .int .i64 x3, .int .i64 x4], .slice (some ⟨g, 0, none⟩) 1 1] w fun e w' => e = .returned (.int .i64 (costV x1 x2 x3 x4 d)) ∧ Below w.heap.size w w' := cost_any x0 x1 x2 x3 x4 g 1 _ t1 w (by omega) h1

theorem l23Cost_one (b o : Nat) (x0 : ByteArray) (x1 : Int) (x2 : Int) (x3 : Int) (x4 : Int) (g : Nat) (d : Int) (t1 : TypeId) (w : World) (h0 : w.cell? ⟨b, o, none⟩ = some (.string x0)) (h1 : w.cell? ⟨b, o + 1, none⟩ = some (.int .i64 x1)) (h2 : w.cell? ⟨b, o + 2, none⟩ = some (.int .i64 x2)) (h3 : w.cell? ⟨b, o + 3, none⟩ = some (.int .i64 x3)) (h4 : w.cell? ⟨b, o + 4, none⟩ = some (.int .i64 x4)) (hbl : b < w.heap.size) (h : w.rowIs g t1 1 (rowInts fun _ => d)) :
    Calls Try.prog 78 #[.pointer (some ⟨b, o, none⟩), .slice (some ⟨g, 0, none⟩) 1 1] w fun e w' => e = .returned (.int .i64 (costV x1 x2 x3 x4 d)) ∧ Below w.heap.size w w' := l23Cost_any b o x0 x1 x2 x3 x4 g 1 _ t1 w h0 h1 h2 h3 h4 hbl (by omega) h

/-- The first damage at which the one costs less. -/
def crossV (x1 : Int) (x2 : Int) (x3 : Int) (x4 : Int) (y1 : Int) (y2 : Int) (y3 : Int) (y4 : Int) : Int × Int := firstP (fun j : Nat => decide ((costV x1 x2 x3 x4 (j : Int)) < (costV y1 y2 y3 y4 (j : Int)))) 20001

theorem cross_hit (x1 : Int) (x2 : Int) (x3 : Int) (x4 : Int) (y1 : Int) (y2 : Int) (y3 : Int) (y4 : Int) {k : Nat} (hk : k < 20001) (hB : firstP (fun j : Nat => decide ((costV x1 x2 x3 x4 (j : Int)) < (costV y1 y2 y3 y4 (j : Int)))) k = (0, 3)) (hc : (costV x1 x2 x3 x4 (k : Int)) < (costV y1 y2 y3 y4 (k : Int))) : crossV x1 x2 x3 x4 y1 y2 y3 y4 = ((k : Int), 0) := first_stay (first_yes (p := (fun j : Nat => decide ((costV x1 x2 x3 x4 (j : Int)) < (costV y1 y2 y3 y4 (j : Int))))) hB (decide_eq_true hc)) rfl 20001 (by omega)

attribute [irreducible] crossV

/-- What CrossAt hands back. -/
def crRes (x0 : ByteArray) (x1 : Int) (x2 : Int) (x3 : Int) (x4 : Int) (y0 : ByteArray) (y1 : Int) (y2 : Int) (y3 : Int) (y4 : Int) : Int × Int := (if vPolicy x0 x1 x2 x3 x4 = true then (if vPolicy y0 y1 y2 y3 y4 = true then (if decide (x1 ≤ 20000) = true then (if decide (y1 ≤ 20000) = true then (if decide (x3 ≤ 20000) = true then (if decide (y3 ≤ 20000) = true then crossV x1 x2 x3 x4 y1 y2 y3 y4 else (0, 2)) else (0, 2)) else (0, 2)) else (0, 2)) else (0, 1)) else (0, 1))

set_option maxHeartbeats 4000000 in
theorem specCrossAt_any (x0 : ByteArray) (x1 : Int) (x2 : Int) (x3 : Int) (x4 : Int) (y0 : ByteArray) (y1 : Int) (y2 : Int) (y3 : Int) (y4 : Int) (v1 v2 : Int) (w : World) (hs0 : x0.size ≤ maxLen) (ht0 : y0.size ≤ maxLen) (hv : crRes x0 x1 x2 x3 x4 y0 y1 y2 y3 y4 = (v1, v2)) :
    Calls Try.prog 21 #[.agg #[.string x0, .int .i64 x1, .int .i64 x2, .int .i64 x3, .int .i64 x4], .agg #[.string y0, .int .i64 y1, .int .i64 y2, .int .i64 y3, .int .i64 y4]] w fun e w' => e = .returned (.tuple #[.int .i64 v1, .int .i64 v2]) ∧ Below w.heap.size w w' := by
  have Z0 := Lib.hid (show ((w.alloc (.cells #[.string x0, .int .i64 x1, .int .i64 x2, .int .i64 x3, .int .i64 x4] 34)).alloc (.cells #[.string y0, .int .i64 y1, .int .i64 y2, .int .i64 y3, .int .i64 y4] 34)).cell? ⟨w.heap.size, 0, none⟩ = some (.string x0) by simp)
  have Z1 := Lib.hid (show ((w.alloc (.cells #[.string x0, .int .i64 x1, .int .i64 x2, .int .i64 x3, .int .i64 x4] 34)).alloc (.cells #[.string y0, .int .i64 y1, .int .i64 y2, .int .i64 y3, .int .i64 y4] 34)).cell? ⟨w.heap.size, 0 + 1, none⟩ = some (.int .i64 x1) by simp)
  have Z2 := Lib.hid (show ((w.alloc (.cells #[.string x0, .int .i64 x1, .int .i64 x2, .int .i64 x3, .int .i64 x4] 34)).alloc (.cells #[.string y0, .int .i64 y1, .int .i64 y2, .int .i64 y3, .int .i64 y4] 34)).cell? ⟨w.heap.size, 0 + 2, none⟩ = some (.int .i64 x2) by simp)
  have Z3 := Lib.hid (show ((w.alloc (.cells #[.string x0, .int .i64 x1, .int .i64 x2, .int .i64 x3, .int .i64 x4] 34)).alloc (.cells #[.string y0, .int .i64 y1, .int .i64 y2, .int .i64 y3, .int .i64 y4] 34)).cell? ⟨w.heap.size, 0 + 3, none⟩ = some (.int .i64 x3) by simp)
  have Z4 := Lib.hid (show ((w.alloc (.cells #[.string x0, .int .i64 x1, .int .i64 x2, .int .i64 x3, .int .i64 x4] 34)).alloc (.cells #[.string y0, .int .i64 y1, .int .i64 y2, .int .i64 y3, .int .i64 y4] 34)).cell? ⟨w.heap.size, 0 + 4, none⟩ = some (.int .i64 x4) by simp)
  have Y0 := Lib.hid (show ((w.alloc (.cells #[.string x0, .int .i64 x1, .int .i64 x2, .int .i64 x3, .int .i64 x4] 34)).alloc (.cells #[.string y0, .int .i64 y1, .int .i64 y2, .int .i64 y3, .int .i64 y4] 34)).cell? ⟨w.heap.size + 1, 0, none⟩ = some (.string y0) by simp)
  have Y1 := Lib.hid (show ((w.alloc (.cells #[.string x0, .int .i64 x1, .int .i64 x2, .int .i64 x3, .int .i64 x4] 34)).alloc (.cells #[.string y0, .int .i64 y1, .int .i64 y2, .int .i64 y3, .int .i64 y4] 34)).cell? ⟨w.heap.size + 1, 0 + 1, none⟩ = some (.int .i64 y1) by simp)
  have Y2 := Lib.hid (show ((w.alloc (.cells #[.string x0, .int .i64 x1, .int .i64 x2, .int .i64 x3, .int .i64 x4] 34)).alloc (.cells #[.string y0, .int .i64 y1, .int .i64 y2, .int .i64 y3, .int .i64 y4] 34)).cell? ⟨w.heap.size + 1, 0 + 2, none⟩ = some (.int .i64 y2) by simp)
  have Y3 := Lib.hid (show ((w.alloc (.cells #[.string x0, .int .i64 x1, .int .i64 x2, .int .i64 x3, .int .i64 x4] 34)).alloc (.cells #[.string y0, .int .i64 y1, .int .i64 y2, .int .i64 y3, .int .i64 y4] 34)).cell? ⟨w.heap.size + 1, 0 + 3, none⟩ = some (.int .i64 y3) by simp)
  have Y4 := Lib.hid (show ((w.alloc (.cells #[.string x0, .int .i64 x1, .int .i64 x2, .int .i64 x3, .int .i64 x4] 34)).alloc (.cells #[.string y0, .int .i64 y1, .int .i64 y2, .int .i64 y3, .int .i64 y4] 34)).cell? ⟨w.heap.size + 1, 0 + 4, none⟩ = some (.int .i64 y4) by simp)
  by_cases e0 : vPolicy x0 x1 x2 x3 x4 = true
  case neg =>
    obtain ⟨rfl, rfl⟩ : v1 = 0 ∧ v2 = 1 := by unfold crRes at hv; rw [if_neg e0] at hv; simpa [eq_comm] using hv
    have e0n : vPolicy x0 x1 x2 x3 x4 = false := by simpa using e0
    clear hv e0
    go_enter Try.func21, Try.ntmps21
    go_wp2_with fail
    refine (onePolicy_any w.heap.size 0 x0 x1 x2 x3 x4 _ hs0 Z0.out Z1.out Z2.out Z3.out Z4.out).mono ?_
    rintro e w' ⟨rfl, rfl⟩
    go_wp2
    all_goals (go_ret2; exact ⟨rfl, by repeat (first | exact below_new _ _ | exact (below_new _ _).alloc (by simp) _ | refine Below.alloc ?_ (by simp; try omega) _)⟩)
  by_cases e1 : vPolicy y0 y1 y2 y3 y4 = true
  case neg =>
    obtain ⟨rfl, rfl⟩ : v1 = 0 ∧ v2 = 1 := by unfold crRes at hv; rw [if_pos e0, if_neg e1] at hv; simpa [eq_comm] using hv
    have e1n : vPolicy y0 y1 y2 y3 y4 = false := by simpa using e1
    clear hv e1
    go_enter Try.func21, Try.ntmps21
    go_wp2_with fail
    refine (onePolicy_any w.heap.size 0 x0 x1 x2 x3 x4 _ hs0 Z0.out Z1.out Z2.out Z3.out Z4.out).mono ?_
    rintro e w' ⟨rfl, rfl⟩
    go_wp2_with fail
    refine (onePolicy_any (w.heap.size + 1) 0 y0 y1 y2 y3 y4 _ ht0 Y0.out Y1.out Y2.out Y3.out Y4.out).mono ?_
    rintro e w' ⟨rfl, rfl⟩
    go_wp2
    all_goals (go_ret2; exact ⟨rfl, by repeat (first | exact below_new _ _ | exact (below_new _ _).alloc (by simp) _ | refine Below.alloc ?_ (by simp; try omega) _)⟩)
  by_cases e2 : decide (x1 ≤ 20000) = true
  case neg =>
    obtain ⟨rfl, rfl⟩ : v1 = 0 ∧ v2 = 2 := by unfold crRes at hv; rw [if_pos e0, if_pos e1, if_neg e2] at hv; simpa [eq_comm] using hv
    have e2n : decide (x1 ≤ 20000) = false := by simpa using e2
    clear hv e2
    simp only [decide_eq_true_eq, decide_eq_false_iff_not] at e2n
    have f0 : 20000 < x1 := by omega
    go_enter Try.func21, Try.ntmps21
    go_wp2_with fail
    refine (onePolicy_any w.heap.size 0 x0 x1 x2 x3 x4 _ hs0 Z0.out Z1.out Z2.out Z3.out Z4.out).mono ?_
    rintro e w' ⟨rfl, rfl⟩
    go_wp2_with fail
    refine (onePolicy_any (w.heap.size + 1) 0 y0 y1 y2 y3 y4 _ ht0 Y0.out Y1.out Y2.out Y3.out Y4.out).mono ?_
    rintro e w' ⟨rfl, rfl⟩
    go_wp2
    all_goals (go_ret2; exact ⟨rfl, by repeat (first | exact below_new _ _ | exact (below_new _ _).alloc (by simp) _ | refine Below.alloc ?_ (by simp; try omega) _)⟩)
  by_cases e3 : decide (y1 ≤ 20000) = true
  case neg =>
    obtain ⟨rfl, rfl⟩ : v1 = 0 ∧ v2 = 2 := by unfold crRes at hv; rw [if_pos e0, if_pos e1, if_pos e2, if_neg e3] at hv; simpa [eq_comm] using hv
    have e3n : decide (y1 ≤ 20000) = false := by simpa using e3
    clear hv e3
    simp only [decide_eq_true_eq, decide_eq_false_iff_not] at e2 e3n
    have f0 : 20000 < y1 := by omega
    go_enter Try.func21, Try.ntmps21
    go_wp2_with fail
    refine (onePolicy_any w.heap.size 0 x0 x1 x2 x3 x4 _ hs0 Z0.out Z1.out Z2.out Z3.out Z4.out).mono ?_
    rintro e w' ⟨rfl, rfl⟩
    go_wp2_with fail
    refine (onePolicy_any (w.heap.size + 1) 0 y0 y1 y2 y3 y4 _ ht0 Y0.out Y1.out Y2.out Y3.out Y4.out).mono ?_
    rintro e w' ⟨rfl, rfl⟩
    go_wp2
    all_goals (go_ret2; exact ⟨rfl, by repeat (first | exact below_new _ _ | exact (below_new _ _).alloc (by simp) _ | refine Below.alloc ?_ (by simp; try omega) _)⟩)
  by_cases e4 : decide (x3 ≤ 20000) = true
  case neg =>
    obtain ⟨rfl, rfl⟩ : v1 = 0 ∧ v2 = 2 := by unfold crRes at hv; rw [if_pos e0, if_pos e1, if_pos e2, if_pos e3, if_neg e4] at hv; simpa [eq_comm] using hv
    have e4n : decide (x3 ≤ 20000) = false := by simpa using e4
    clear hv e4
    simp only [decide_eq_true_eq, decide_eq_false_iff_not] at e2 e3 e4n
    have f0 : 20000 < x3 := by omega
    go_enter Try.func21, Try.ntmps21
    go_wp2_with fail
    refine (onePolicy_any w.heap.size 0 x0 x1 x2 x3 x4 _ hs0 Z0.out Z1.out Z2.out Z3.out Z4.out).mono ?_
    rintro e w' ⟨rfl, rfl⟩
    go_wp2_with fail
    refine (onePolicy_any (w.heap.size + 1) 0 y0 y1 y2 y3 y4 _ ht0 Y0.out Y1.out Y2.out Y3.out Y4.out).mono ?_
    rintro e w' ⟨rfl, rfl⟩
    go_wp2
    all_goals (go_ret2; exact ⟨rfl, by repeat (first | exact below_new _ _ | exact (below_new _ _).alloc (by simp) _ | refine Below.alloc ?_ (by simp; try omega) _)⟩)
  by_cases e5 : decide (y3 ≤ 20000) = true
  case neg =>
    obtain ⟨rfl, rfl⟩ : v1 = 0 ∧ v2 = 2 := by unfold crRes at hv; rw [if_pos e0, if_pos e1, if_pos e2, if_pos e3, if_pos e4, if_neg e5] at hv; simpa [eq_comm] using hv
    have e5n : decide (y3 ≤ 20000) = false := by simpa using e5
    clear hv e5
    simp only [decide_eq_true_eq, decide_eq_false_iff_not] at e2 e3 e4 e5n
    have f0 : 20000 < y3 := by omega
    go_enter Try.func21, Try.ntmps21
    go_wp2_with fail
    refine (onePolicy_any w.heap.size 0 x0 x1 x2 x3 x4 _ hs0 Z0.out Z1.out Z2.out Z3.out Z4.out).mono ?_
    rintro e w' ⟨rfl, rfl⟩
    go_wp2_with fail
    refine (onePolicy_any (w.heap.size + 1) 0 y0 y1 y2 y3 y4 _ ht0 Y0.out Y1.out Y2.out Y3.out Y4.out).mono ?_
    rintro e w' ⟨rfl, rfl⟩
    go_wp2
    all_goals (go_ret2; exact ⟨rfl, by repeat (first | exact below_new _ _ | exact (below_new _ _).alloc (by simp) _ | refine Below.alloc ?_ (by simp; try omega) _)⟩)
  replace hv : crossV x1 x2 x3 x4 y1 y2 y3 y4 = (v1, v2) := by unfold crRes at hv; rw [if_pos e0, if_pos e1, if_pos e2, if_pos e3, if_pos e4, if_pos e5] at hv; exact hv
  have HV := Lib.hid hv
  clear hv
  simp only [decide_eq_true_eq] at e2 e3 e4 e5
  go_enter Try.func21, Try.ntmps21
  go_wp2_with fail
  refine (onePolicy_any w.heap.size 0 x0 x1 x2 x3 x4 _ hs0 Z0.out Z1.out Z2.out Z3.out Z4.out).mono ?_
  rintro e w' ⟨rfl, rfl⟩
  go_wp2_with fail
  refine (onePolicy_any (w.heap.size + 1) 0 y0 y1 y2 y3 y4 _ ht0 Y0.out Y1.out Y2.out Y3.out Y4.out).mono ?_
  rintro e w' ⟨rfl, rfl⟩
  go_wp2
  go_loopw [6] (fun i wr => ∃ k : Nat, k ≤ 20001 ∧ i = .int .i64 k ∧ Hid (firstP (fun j : Nat => decide ((costV x1 x2 x3 x4 (j : Int)) < (costV y1 y2 y3 y4 (j : Int)))) k = (0, 3)) ∧ Below ((w.alloc (.cells #[.string x0, .int .i64 x1, .int .i64 x2, .int .i64 x3, .int .i64 x4] 34)).alloc (.cells #[.string y0, .int .i64 y1, .int .i64 y2, .int .i64 y3, .int .i64 y4] 34)).heap.size ((w.alloc (.cells #[.string x0, .int .i64 x1, .int .i64 x2, .int .i64 x3, .int .i64 x4] 34)).alloc (.cells #[.string y0, .int .i64 y1, .int .i64 y2, .int .i64 y3, .int .i64 y4] 34)) wr) (fun i _ => 20001 - (intOf i).toNat)
  case atStart => exact ⟨0, by omega, rfl, rfl, Below.refl _ _⟩
  case round =>
    obtain ⟨k, hk, rfl, hfb, hbel⟩ := hrel
    have HB := Lib.hid hfb
    clear hfb
    by_cases hlt : k < 20001
    · have hki : (k : Int) ≤ 20000 := by omega
      have hk0 : (0 : Int) ≤ (k : Int) := by omega
      by_cases hc : (costV x1 x2 x3 x4 (k : Int)) < (costV y1 y2 y3 y4 (k : Int))
      · have hN := cross_hit _ _ _ _ _ _ _ _ hlt HB.out.out hc
        have hv := HV.out
        rw [hN] at hv
        simp only [Prod.mk.injEq] at hv
        have HVV := Lib.hid hv
        clear hv hN
        have z0 : wr.cell? ⟨w.heap.size, 0, none⟩ = some (.string x0) := (bcell hbel _ _ (by simp; omega)).trans (by simp)
        have z1 : wr.cell? ⟨w.heap.size, 1, none⟩ = some (.int .i64 x1) := (bcell hbel _ _ (by simp; omega)).trans (by simp)
        have z2 : wr.cell? ⟨w.heap.size, 2, none⟩ = some (.int .i64 x2) := (bcell hbel _ _ (by simp; omega)).trans (by simp)
        have z3 : wr.cell? ⟨w.heap.size, 3, none⟩ = some (.int .i64 x3) := (bcell hbel _ _ (by simp; omega)).trans (by simp)
        have z4 : wr.cell? ⟨w.heap.size, 4, none⟩ = some (.int .i64 x4) := (bcell hbel _ _ (by simp; omega)).trans (by simp)
        have zb0 : wr.cell? ⟨w.heap.size + 1, 0, none⟩ = some (.string y0) := (bcell hbel _ _ (by simp)).trans (by simp)
        have zb1 : wr.cell? ⟨w.heap.size + 1, 1, none⟩ = some (.int .i64 y1) := (bcell hbel _ _ (by simp)).trans (by simp)
        have zb2 : wr.cell? ⟨w.heap.size + 1, 2, none⟩ = some (.int .i64 y2) := (bcell hbel _ _ (by simp)).trans (by simp)
        have zb3 : wr.cell? ⟨w.heap.size + 1, 3, none⟩ = some (.int .i64 y3) := (bcell hbel _ _ (by simp)).trans (by simp)
        have zb4 : wr.cell? ⟨w.heap.size + 1, 4, none⟩ = some (.int .i64 y4) := (bcell hbel _ _ (by simp)).trans (by simp)
        have hlw : w.heap.size + 1 < wr.heap.size := by have := hbel.size; simp at this; omega
        go_wp2_with fail
        refine (l23Cost_one w.heap.size 0 x0 x1 x2 x3 x4 _ (k : Int) 2 _ (cell_new z0 (by omega)) (cell_new z1 (by omega)) (cell_new z2 (by omega)) (cell_new z3 (by omega)) (cell_new z4 (by omega)) (by simp; omega) (row_one wr _ _)).mono ?_
        rintro e w1 ⟨rfl, hb1⟩
        have B1 : Below ((w.alloc (.cells #[.string x0, .int .i64 x1, .int .i64 x2, .int .i64 x3, .int .i64 x4] 34)).alloc (.cells #[.string y0, .int .i64 y1, .int .i64 y2, .int .i64 y3, .int .i64 y4] 34)).heap.size ((w.alloc (.cells #[.string x0, .int .i64 x1, .int .i64 x2, .int .i64 x3, .int .i64 x4] 34)).alloc (.cells #[.string y0, .int .i64 y1, .int .i64 y2, .int .i64 y3, .int .i64 y4] 34)) w1 := (hbel.alloc hbel.size _).trans (hb1.mono (by have := hbel.size; simp at this ⊢; omega))
        clear hb1 z0 zb0 z1 zb1 z2 zb2 z3 zb3 z4 zb4
        have z0 : w1.cell? ⟨w.heap.size, 0, none⟩ = some (.string x0) := (bcell B1 _ _ (by simp; omega)).trans (by simp)
        have z1 : w1.cell? ⟨w.heap.size, 1, none⟩ = some (.int .i64 x1) := (bcell B1 _ _ (by simp; omega)).trans (by simp)
        have z2 : w1.cell? ⟨w.heap.size, 2, none⟩ = some (.int .i64 x2) := (bcell B1 _ _ (by simp; omega)).trans (by simp)
        have z3 : w1.cell? ⟨w.heap.size, 3, none⟩ = some (.int .i64 x3) := (bcell B1 _ _ (by simp; omega)).trans (by simp)
        have z4 : w1.cell? ⟨w.heap.size, 4, none⟩ = some (.int .i64 x4) := (bcell B1 _ _ (by simp; omega)).trans (by simp)
        have zb0 : w1.cell? ⟨w.heap.size + 1, 0, none⟩ = some (.string y0) := (bcell B1 _ _ (by simp)).trans (by simp)
        have zb1 : w1.cell? ⟨w.heap.size + 1, 1, none⟩ = some (.int .i64 y1) := (bcell B1 _ _ (by simp)).trans (by simp)
        have zb2 : w1.cell? ⟨w.heap.size + 1, 2, none⟩ = some (.int .i64 y2) := (bcell B1 _ _ (by simp)).trans (by simp)
        have zb3 : w1.cell? ⟨w.heap.size + 1, 3, none⟩ = some (.int .i64 y3) := (bcell B1 _ _ (by simp)).trans (by simp)
        have zb4 : w1.cell? ⟨w.heap.size + 1, 4, none⟩ = some (.int .i64 y4) := (bcell B1 _ _ (by simp)).trans (by simp)
        have hlw1 : w.heap.size + 1 < w1.heap.size := by have := B1.size; simp at this; omega
        go_wp2_with fail
        refine (l23Cost_one (w.heap.size + 1) 0 y0 y1 y2 y3 y4 _ (k : Int) 2 _ (cell_new zb0 (by omega)) (cell_new zb1 (by omega)) (cell_new zb2 (by omega)) (cell_new zb3 (by omega)) (cell_new zb4 (by omega)) (by simp; omega) (row_one w1 _ _)).mono ?_
        rintro e w2 ⟨rfl, hb2⟩
        have B2 : Below ((w.alloc (.cells #[.string x0, .int .i64 x1, .int .i64 x2, .int .i64 x3, .int .i64 x4] 34)).alloc (.cells #[.string y0, .int .i64 y1, .int .i64 y2, .int .i64 y3, .int .i64 y4] 34)).heap.size ((w.alloc (.cells #[.string x0, .int .i64 x1, .int .i64 x2, .int .i64 x3, .int .i64 x4] 34)).alloc (.cells #[.string y0, .int .i64 y1, .int .i64 y2, .int .i64 y3, .int .i64 y4] 34)) w2 := (B1.alloc B1.size _).trans (hb2.mono (by have := B1.size; simp at this ⊢; omega))
        clear hb2 B1 hlw hlw1 z0 zb0 z1 zb1 z2 zb2 z3 zb3 z4 zb4
        go_wp2
        go_ret2
        exact ⟨by rw [← HVV.out.1, ← HVV.out.2]; rfl, ((below_new w _).alloc (by simp) _).trans (B2.mono (by simp; omega))⟩
      · have HN := Lib.hid (show Hid (firstP (fun j : Nat => decide ((costV x1 x2 x3 x4 (j : Int)) < (costV y1 y2 y3 y4 (j : Int)))) (k + 1) = (0, 3)) from first_no HB.out.out (decide_eq_false hc))
        have hcd : decide ((costV x1 x2 x3 x4 (k : Int)) < (costV y1 y2 y3 y4 (k : Int))) = false := by simpa using hc
        clear hc
        have z0 : wr.cell? ⟨w.heap.size, 0, none⟩ = some (.string x0) := (bcell hbel _ _ (by simp; omega)).trans (by simp)
        have z1 : wr.cell? ⟨w.heap.size, 1, none⟩ = some (.int .i64 x1) := (bcell hbel _ _ (by simp; omega)).trans (by simp)
        have z2 : wr.cell? ⟨w.heap.size, 2, none⟩ = some (.int .i64 x2) := (bcell hbel _ _ (by simp; omega)).trans (by simp)
        have z3 : wr.cell? ⟨w.heap.size, 3, none⟩ = some (.int .i64 x3) := (bcell hbel _ _ (by simp; omega)).trans (by simp)
        have z4 : wr.cell? ⟨w.heap.size, 4, none⟩ = some (.int .i64 x4) := (bcell hbel _ _ (by simp; omega)).trans (by simp)
        have zb0 : wr.cell? ⟨w.heap.size + 1, 0, none⟩ = some (.string y0) := (bcell hbel _ _ (by simp)).trans (by simp)
        have zb1 : wr.cell? ⟨w.heap.size + 1, 1, none⟩ = some (.int .i64 y1) := (bcell hbel _ _ (by simp)).trans (by simp)
        have zb2 : wr.cell? ⟨w.heap.size + 1, 2, none⟩ = some (.int .i64 y2) := (bcell hbel _ _ (by simp)).trans (by simp)
        have zb3 : wr.cell? ⟨w.heap.size + 1, 3, none⟩ = some (.int .i64 y3) := (bcell hbel _ _ (by simp)).trans (by simp)
        have zb4 : wr.cell? ⟨w.heap.size + 1, 4, none⟩ = some (.int .i64 y4) := (bcell hbel _ _ (by simp)).trans (by simp)
        have hlw : w.heap.size + 1 < wr.heap.size := by have := hbel.size; simp at this; omega
        go_wp2_with fail
        refine (l23Cost_one w.heap.size 0 x0 x1 x2 x3 x4 _ (k : Int) 2 _ (cell_new z0 (by omega)) (cell_new z1 (by omega)) (cell_new z2 (by omega)) (cell_new z3 (by omega)) (cell_new z4 (by omega)) (by simp; omega) (row_one wr _ _)).mono ?_
        rintro e w1 ⟨rfl, hb1⟩
        have B1 : Below ((w.alloc (.cells #[.string x0, .int .i64 x1, .int .i64 x2, .int .i64 x3, .int .i64 x4] 34)).alloc (.cells #[.string y0, .int .i64 y1, .int .i64 y2, .int .i64 y3, .int .i64 y4] 34)).heap.size ((w.alloc (.cells #[.string x0, .int .i64 x1, .int .i64 x2, .int .i64 x3, .int .i64 x4] 34)).alloc (.cells #[.string y0, .int .i64 y1, .int .i64 y2, .int .i64 y3, .int .i64 y4] 34)) w1 := (hbel.alloc hbel.size _).trans (hb1.mono (by have := hbel.size; simp at this ⊢; omega))
        clear hb1 z0 zb0 z1 zb1 z2 zb2 z3 zb3 z4 zb4
        have z0 : w1.cell? ⟨w.heap.size, 0, none⟩ = some (.string x0) := (bcell B1 _ _ (by simp; omega)).trans (by simp)
        have z1 : w1.cell? ⟨w.heap.size, 1, none⟩ = some (.int .i64 x1) := (bcell B1 _ _ (by simp; omega)).trans (by simp)
        have z2 : w1.cell? ⟨w.heap.size, 2, none⟩ = some (.int .i64 x2) := (bcell B1 _ _ (by simp; omega)).trans (by simp)
        have z3 : w1.cell? ⟨w.heap.size, 3, none⟩ = some (.int .i64 x3) := (bcell B1 _ _ (by simp; omega)).trans (by simp)
        have z4 : w1.cell? ⟨w.heap.size, 4, none⟩ = some (.int .i64 x4) := (bcell B1 _ _ (by simp; omega)).trans (by simp)
        have zb0 : w1.cell? ⟨w.heap.size + 1, 0, none⟩ = some (.string y0) := (bcell B1 _ _ (by simp)).trans (by simp)
        have zb1 : w1.cell? ⟨w.heap.size + 1, 1, none⟩ = some (.int .i64 y1) := (bcell B1 _ _ (by simp)).trans (by simp)
        have zb2 : w1.cell? ⟨w.heap.size + 1, 2, none⟩ = some (.int .i64 y2) := (bcell B1 _ _ (by simp)).trans (by simp)
        have zb3 : w1.cell? ⟨w.heap.size + 1, 3, none⟩ = some (.int .i64 y3) := (bcell B1 _ _ (by simp)).trans (by simp)
        have zb4 : w1.cell? ⟨w.heap.size + 1, 4, none⟩ = some (.int .i64 y4) := (bcell B1 _ _ (by simp)).trans (by simp)
        have hlw1 : w.heap.size + 1 < w1.heap.size := by have := B1.size; simp at this; omega
        go_wp2_with fail
        refine (l23Cost_one (w.heap.size + 1) 0 y0 y1 y2 y3 y4 _ (k : Int) 2 _ (cell_new zb0 (by omega)) (cell_new zb1 (by omega)) (cell_new zb2 (by omega)) (cell_new zb3 (by omega)) (cell_new zb4 (by omega)) (by simp; omega) (row_one w1 _ _)).mono ?_
        rintro e w2 ⟨rfl, hb2⟩
        have B2 : Below ((w.alloc (.cells #[.string x0, .int .i64 x1, .int .i64 x2, .int .i64 x3, .int .i64 x4] 34)).alloc (.cells #[.string y0, .int .i64 y1, .int .i64 y2, .int .i64 y3, .int .i64 y4] 34)).heap.size ((w.alloc (.cells #[.string x0, .int .i64 x1, .int .i64 x2, .int .i64 x3, .int .i64 x4] 34)).alloc (.cells #[.string y0, .int .i64 y1, .int .i64 y2, .int .i64 y3, .int .i64 y4] 34)) w2 := (B1.alloc B1.size _).trans (hb2.mono (by have := B1.size; simp at this ⊢; omega))
        clear hb2 B1 hlw hlw1 z0 zb0 z1 zb1 z2 zb2 z3 zb3 z4 zb4
        go_wp2
        go_roundw
        case rel => first | exact ⟨k + 1, by omega, by go_num, HN.out, B2⟩ | ((repeat apply Exists.intro); exact ⟨⟨k + 1, by omega, by go_num, HN.out, B2⟩, rfl⟩)
        case measure => simp [intOf]; omega
    · obtain rfl : k = 20001 := by omega
      have hv := HV.out
      unfold crossV at hv
      rw [HB.out.out] at hv
      simp only [Prod.mk.injEq] at hv
      have HVV := Lib.hid hv
      clear hv
      go_wp2
      go_ret2
      exact ⟨by rw [← HVV.out.1, ← HVV.out.2]; rfl, ((below_new w _).alloc (by simp) _).trans (hbel.mono (by simp; omega))⟩

set_option maxHeartbeats 4000000 in
theorem implCrossAt_any (x0 : ByteArray) (x1 : Int) (x2 : Int) (x3 : Int) (x4 : Int) (y0 : ByteArray) (y1 : Int) (y2 : Int) (y3 : Int) (y4 : Int) (v1 v2 : Int) (w : World) (hs0 : x0.size ≤ maxLen) (ht0 : y0.size ≤ maxLen) (hv : crRes x0 x1 x2 x3 x4 y0 y1 y2 y3 y4 = (v1, v2)) :
    Calls Try.prog 23 #[.agg #[.string x0, .int .i64 x1, .int .i64 x2, .int .i64 x3, .int .i64 x4], .agg #[.string y0, .int .i64 y1, .int .i64 y2, .int .i64 y3, .int .i64 y4]] w fun e w' => e = .returned (.tuple #[.int .i64 v1, .int .i64 v2]) ∧ Below w.heap.size w w' := by
  by_cases e0 : vPolicy x0 x1 x2 x3 x4 = true
  case neg =>
    obtain ⟨rfl, rfl⟩ : v1 = 0 ∧ v2 = 1 := by unfold crRes at hv; rw [if_neg e0] at hv; simpa [eq_comm] using hv
    have e0n : vPolicy x0 x1 x2 x3 x4 = false := by simpa using e0
    clear hv e0
    go_enter Try.func23, Try.ntmps23
    go_wp2_with fail
    refine (validPolicy_any _ _ _ _ _ _ hs0).mono ?_
    rintro e w' ⟨rfl, rfl⟩
    go_wp2
    all_goals (go_ret2; exact ⟨rfl, by repeat (first | exact below_new _ _ | exact (below_new _ _).alloc (by simp) _ | refine Below.alloc ?_ (by simp; try omega) _)⟩)
  by_cases e1 : vPolicy y0 y1 y2 y3 y4 = true
  case neg =>
    obtain ⟨rfl, rfl⟩ : v1 = 0 ∧ v2 = 1 := by unfold crRes at hv; rw [if_pos e0, if_neg e1] at hv; simpa [eq_comm] using hv
    have e1n : vPolicy y0 y1 y2 y3 y4 = false := by simpa using e1
    clear hv e1
    go_enter Try.func23, Try.ntmps23
    go_wp2_with fail
    refine (validPolicy_any _ _ _ _ _ _ hs0).mono ?_
    rintro e w' ⟨rfl, rfl⟩
    go_wp2_with fail
    refine (validPolicy_any _ _ _ _ _ _ ht0).mono ?_
    rintro e w' ⟨rfl, rfl⟩
    go_wp2
    all_goals (go_ret2; exact ⟨rfl, by repeat (first | exact below_new _ _ | exact (below_new _ _).alloc (by simp) _ | refine Below.alloc ?_ (by simp; try omega) _)⟩)
  by_cases e2 : decide (x1 ≤ 20000) = true
  case neg =>
    obtain ⟨rfl, rfl⟩ : v1 = 0 ∧ v2 = 2 := by unfold crRes at hv; rw [if_pos e0, if_pos e1, if_neg e2] at hv; simpa [eq_comm] using hv
    have e2n : decide (x1 ≤ 20000) = false := by simpa using e2
    clear hv e2
    simp only [decide_eq_true_eq, decide_eq_false_iff_not] at e2n
    have f0 : 20000 < x1 := by omega
    have hmx : 20000 < max (max (max x1 x3) y1) y3 := by omega
    go_enter Try.func23, Try.ntmps23
    go_wp2_with fail
    refine (validPolicy_any _ _ _ _ _ _ hs0).mono ?_
    rintro e w' ⟨rfl, rfl⟩
    go_wp2_with fail
    refine (validPolicy_any _ _ _ _ _ _ ht0).mono ?_
    rintro e w' ⟨rfl, rfl⟩
    go_wp2
    all_goals (go_ret2; exact ⟨rfl, by repeat (first | exact below_new _ _ | exact (below_new _ _).alloc (by simp) _ | refine Below.alloc ?_ (by simp; try omega) _)⟩)
  by_cases e3 : decide (y1 ≤ 20000) = true
  case neg =>
    obtain ⟨rfl, rfl⟩ : v1 = 0 ∧ v2 = 2 := by unfold crRes at hv; rw [if_pos e0, if_pos e1, if_pos e2, if_neg e3] at hv; simpa [eq_comm] using hv
    have e3n : decide (y1 ≤ 20000) = false := by simpa using e3
    clear hv e3
    simp only [decide_eq_true_eq, decide_eq_false_iff_not] at e2 e3n
    have f0 : 20000 < y1 := by omega
    have hmx : 20000 < max (max (max x1 x3) y1) y3 := by omega
    go_enter Try.func23, Try.ntmps23
    go_wp2_with fail
    refine (validPolicy_any _ _ _ _ _ _ hs0).mono ?_
    rintro e w' ⟨rfl, rfl⟩
    go_wp2_with fail
    refine (validPolicy_any _ _ _ _ _ _ ht0).mono ?_
    rintro e w' ⟨rfl, rfl⟩
    go_wp2
    all_goals (go_ret2; exact ⟨rfl, by repeat (first | exact below_new _ _ | exact (below_new _ _).alloc (by simp) _ | refine Below.alloc ?_ (by simp; try omega) _)⟩)
  by_cases e4 : decide (x3 ≤ 20000) = true
  case neg =>
    obtain ⟨rfl, rfl⟩ : v1 = 0 ∧ v2 = 2 := by unfold crRes at hv; rw [if_pos e0, if_pos e1, if_pos e2, if_pos e3, if_neg e4] at hv; simpa [eq_comm] using hv
    have e4n : decide (x3 ≤ 20000) = false := by simpa using e4
    clear hv e4
    simp only [decide_eq_true_eq, decide_eq_false_iff_not] at e2 e3 e4n
    have f0 : 20000 < x3 := by omega
    have hmx : 20000 < max (max (max x1 x3) y1) y3 := by omega
    go_enter Try.func23, Try.ntmps23
    go_wp2_with fail
    refine (validPolicy_any _ _ _ _ _ _ hs0).mono ?_
    rintro e w' ⟨rfl, rfl⟩
    go_wp2_with fail
    refine (validPolicy_any _ _ _ _ _ _ ht0).mono ?_
    rintro e w' ⟨rfl, rfl⟩
    go_wp2
    all_goals (go_ret2; exact ⟨rfl, by repeat (first | exact below_new _ _ | exact (below_new _ _).alloc (by simp) _ | refine Below.alloc ?_ (by simp; try omega) _)⟩)
  by_cases e5 : decide (y3 ≤ 20000) = true
  case neg =>
    obtain ⟨rfl, rfl⟩ : v1 = 0 ∧ v2 = 2 := by unfold crRes at hv; rw [if_pos e0, if_pos e1, if_pos e2, if_pos e3, if_pos e4, if_neg e5] at hv; simpa [eq_comm] using hv
    have e5n : decide (y3 ≤ 20000) = false := by simpa using e5
    clear hv e5
    simp only [decide_eq_true_eq, decide_eq_false_iff_not] at e2 e3 e4 e5n
    have f0 : 20000 < y3 := by omega
    have hmx : 20000 < max (max (max x1 x3) y1) y3 := by omega
    go_enter Try.func23, Try.ntmps23
    go_wp2_with fail
    refine (validPolicy_any _ _ _ _ _ _ hs0).mono ?_
    rintro e w' ⟨rfl, rfl⟩
    go_wp2_with fail
    refine (validPolicy_any _ _ _ _ _ _ ht0).mono ?_
    rintro e w' ⟨rfl, rfl⟩
    go_wp2
    all_goals (go_ret2; exact ⟨rfl, by repeat (first | exact below_new _ _ | exact (below_new _ _).alloc (by simp) _ | refine Below.alloc ?_ (by simp; try omega) _)⟩)
  replace hv : crossV x1 x2 x3 x4 y1 y2 y3 y4 = (v1, v2) := by unfold crRes at hv; rw [if_pos e0, if_pos e1, if_pos e2, if_pos e3, if_pos e4, if_pos e5] at hv; exact hv
  have HV := Lib.hid hv
  clear hv
  simp only [decide_eq_true_eq] at e2 e3 e4 e5
  have hmx : decide (20000 < max (max (max x1 x3) y1) y3) = false := by simp; omega
  go_enter Try.func23, Try.ntmps23
  go_wp2_with fail
  refine (validPolicy_any _ _ _ _ _ _ hs0).mono ?_
  rintro e w' ⟨rfl, rfl⟩
  go_wp2_with fail
  refine (validPolicy_any _ _ _ _ _ _ ht0).mono ?_
  rintro e w' ⟨rfl, rfl⟩
  go_wp2
  go_loopw [6] (fun i wr => ∃ k : Nat, k ≤ 20001 ∧ i = .int .i64 k ∧ Hid (firstP (fun j : Nat => decide ((costV x1 x2 x3 x4 (j : Int)) < (costV y1 y2 y3 y4 (j : Int)))) k = (0, 3)) ∧ Below ((w.alloc (.cells #[.string x0, .int .i64 x1, .int .i64 x2, .int .i64 x3, .int .i64 x4] 34)).alloc (.cells #[.string y0, .int .i64 y1, .int .i64 y2, .int .i64 y3, .int .i64 y4] 34)).heap.size ((w.alloc (.cells #[.string x0, .int .i64 x1, .int .i64 x2, .int .i64 x3, .int .i64 x4] 34)).alloc (.cells #[.string y0, .int .i64 y1, .int .i64 y2, .int .i64 y3, .int .i64 y4] 34)) wr) (fun i _ => 20001 - (intOf i).toNat)
  case atStart => exact ⟨0, by omega, rfl, rfl, by repeat (first | exact Below.refl _ _ | refine Below.alloc ?_ (by simp; try omega) _)⟩
  case round =>
    obtain ⟨k, hk, rfl, hfb, hbel⟩ := hrel
    have HB := Lib.hid hfb
    clear hfb
    by_cases hlt : k < 20001
    · have hki : (k : Int) ≤ 20000 := by omega
      have hk0 : (0 : Int) ≤ (k : Int) := by omega
      by_cases hc : (costV x1 x2 x3 x4 (k : Int)) < (costV y1 y2 y3 y4 (k : Int))
      · have hN := cross_hit _ _ _ _ _ _ _ _ hlt HB.out.out hc
        have hv := HV.out
        rw [hN] at hv
        simp only [Prod.mk.injEq] at hv
        have HVV := Lib.hid hv
        clear hv hN
        have z0 : wr.cell? ⟨w.heap.size, 0, none⟩ = some (.string x0) := (bcell hbel _ _ (by simp; omega)).trans (by simp)
        have z1 : wr.cell? ⟨w.heap.size, 1, none⟩ = some (.int .i64 x1) := (bcell hbel _ _ (by simp; omega)).trans (by simp)
        have z2 : wr.cell? ⟨w.heap.size, 2, none⟩ = some (.int .i64 x2) := (bcell hbel _ _ (by simp; omega)).trans (by simp)
        have z3 : wr.cell? ⟨w.heap.size, 3, none⟩ = some (.int .i64 x3) := (bcell hbel _ _ (by simp; omega)).trans (by simp)
        have z4 : wr.cell? ⟨w.heap.size, 4, none⟩ = some (.int .i64 x4) := (bcell hbel _ _ (by simp; omega)).trans (by simp)
        have zb0 : wr.cell? ⟨w.heap.size + 1, 0, none⟩ = some (.string y0) := (bcell hbel _ _ (by simp)).trans (by simp)
        have zb1 : wr.cell? ⟨w.heap.size + 1, 1, none⟩ = some (.int .i64 y1) := (bcell hbel _ _ (by simp)).trans (by simp)
        have zb2 : wr.cell? ⟨w.heap.size + 1, 2, none⟩ = some (.int .i64 y2) := (bcell hbel _ _ (by simp)).trans (by simp)
        have zb3 : wr.cell? ⟨w.heap.size + 1, 3, none⟩ = some (.int .i64 y3) := (bcell hbel _ _ (by simp)).trans (by simp)
        have zb4 : wr.cell? ⟨w.heap.size + 1, 4, none⟩ = some (.int .i64 y4) := (bcell hbel _ _ (by simp)).trans (by simp)
        have hlw : w.heap.size + 1 < wr.heap.size := by have := hbel.size; simp at this; omega
        have B2 := hbel
        go_wp2_with fail
        go_region_held3 (fun w' => w'.cell? ⟨w.heap.size, 0, none⟩ = some (.string x0) ∧ w'.cell? ⟨w.heap.size, 1, none⟩ = some (.int .i64 x1) ∧ w'.cell? ⟨w.heap.size, 2, none⟩ = some (.int .i64 x2) ∧ w'.cell? ⟨w.heap.size, 3, none⟩ = some (.int .i64 x3) ∧ w'.cell? ⟨w.heap.size, 4, none⟩ = some (.int .i64 x4) ∧ w'.cell? ⟨w.heap.size + 1, 0, none⟩ = some (.string y0) ∧ w'.cell? ⟨w.heap.size + 1, 1, none⟩ = some (.int .i64 y1) ∧ w'.cell? ⟨w.heap.size + 1, 2, none⟩ = some (.int .i64 y2) ∧ w'.cell? ⟨w.heap.size + 1, 3, none⟩ = some (.int .i64 y3) ∧ w'.cell? ⟨w.heap.size + 1, 4, none⟩ = some (.int .i64 y4)) (first | go_keep | (refine ⟨?_, ?_, ?_, ?_, ?_, ?_, ?_, ?_, ?_, ?_⟩ <;> first | exact (bcell B2 _ _ (by simp; omega)).trans (by simp) | exact (bcell B2 _ _ (by simp)).trans (by simp))) ((go_at_call 80; refine (cost_one _ _ _ _ _ _ (k : Int) 2 _ (by first | exact row_one _ _ _ | exact row_drew (row_one _ _ _) | exact row_drew (row_two1 _ _ _ _) | exact row_drew (row_two2 _ _ _ _) | exact row_two1 _ _ _ _ | exact row_two2 _ _ _ _ | exact row_below (row_drew (row_two1 _ _ _ _)) hb1 (by simp; try omega) | exact row_below (row_drew (row_two2 _ _ _ _)) hb1 (by simp; try omega) | exact row_below (row_two1 _ _ _ _) hb1 (by simp; try omega) | exact row_below (row_two2 _ _ _ _) hb1 (by simp; try omega) | exact row_drew (row_below (row_drew (row_two1 _ _ _ _)) hb1 (by simp; try omega)) | exact row_drew (row_below (row_drew (row_two2 _ _ _ _)) hb1 (by simp; try omega)))).mono ?_; rintro e w1 ⟨rfl, hb2⟩; replace B2 : Below ((w.alloc (.cells #[.string x0, .int .i64 x1, .int .i64 x2, .int .i64 x3, .int .i64 x4] 34)).alloc (.cells #[.string y0, .int .i64 y1, .int .i64 y2, .int .i64 y3, .int .i64 y4] 34)).heap.size ((w.alloc (.cells #[.string x0, .int .i64 x1, .int .i64 x2, .int .i64 x3, .int .i64 x4] 34)).alloc (.cells #[.string y0, .int .i64 y1, .int .i64 y2, .int .i64 y3, .int .i64 y4] 34)) w1 := (by first | exact chain0 B2 hb2 | exact chain1 B2 hb2 | exact chain1d B2 hb2 | exact chain2 B2 hb2 | exact chain2d B2 hb2 | exact chaind B2 hb2); have hb1 := hb2))
        all_goals (go_wp2; go_ret2; exact ⟨by rw [← HVV.out.1, ← HVV.out.2]; rfl, ((below_new w _).alloc (by simp) _).trans (B2.mono (by simp; omega))⟩)
      · have HN := Lib.hid (show Hid (firstP (fun j : Nat => decide ((costV x1 x2 x3 x4 (j : Int)) < (costV y1 y2 y3 y4 (j : Int)))) (k + 1) = (0, 3)) from first_no HB.out.out (decide_eq_false hc))
        have hcd : decide ((costV x1 x2 x3 x4 (k : Int)) < (costV y1 y2 y3 y4 (k : Int))) = false := by simpa using hc
        clear hc
        have z0 : wr.cell? ⟨w.heap.size, 0, none⟩ = some (.string x0) := (bcell hbel _ _ (by simp; omega)).trans (by simp)
        have z1 : wr.cell? ⟨w.heap.size, 1, none⟩ = some (.int .i64 x1) := (bcell hbel _ _ (by simp; omega)).trans (by simp)
        have z2 : wr.cell? ⟨w.heap.size, 2, none⟩ = some (.int .i64 x2) := (bcell hbel _ _ (by simp; omega)).trans (by simp)
        have z3 : wr.cell? ⟨w.heap.size, 3, none⟩ = some (.int .i64 x3) := (bcell hbel _ _ (by simp; omega)).trans (by simp)
        have z4 : wr.cell? ⟨w.heap.size, 4, none⟩ = some (.int .i64 x4) := (bcell hbel _ _ (by simp; omega)).trans (by simp)
        have zb0 : wr.cell? ⟨w.heap.size + 1, 0, none⟩ = some (.string y0) := (bcell hbel _ _ (by simp)).trans (by simp)
        have zb1 : wr.cell? ⟨w.heap.size + 1, 1, none⟩ = some (.int .i64 y1) := (bcell hbel _ _ (by simp)).trans (by simp)
        have zb2 : wr.cell? ⟨w.heap.size + 1, 2, none⟩ = some (.int .i64 y2) := (bcell hbel _ _ (by simp)).trans (by simp)
        have zb3 : wr.cell? ⟨w.heap.size + 1, 3, none⟩ = some (.int .i64 y3) := (bcell hbel _ _ (by simp)).trans (by simp)
        have zb4 : wr.cell? ⟨w.heap.size + 1, 4, none⟩ = some (.int .i64 y4) := (bcell hbel _ _ (by simp)).trans (by simp)
        have hlw : w.heap.size + 1 < wr.heap.size := by have := hbel.size; simp at this; omega
        have B2 := hbel
        go_wp2_with fail
        go_region_held3 (fun w' => w'.cell? ⟨w.heap.size, 0, none⟩ = some (.string x0) ∧ w'.cell? ⟨w.heap.size, 1, none⟩ = some (.int .i64 x1) ∧ w'.cell? ⟨w.heap.size, 2, none⟩ = some (.int .i64 x2) ∧ w'.cell? ⟨w.heap.size, 3, none⟩ = some (.int .i64 x3) ∧ w'.cell? ⟨w.heap.size, 4, none⟩ = some (.int .i64 x4) ∧ w'.cell? ⟨w.heap.size + 1, 0, none⟩ = some (.string y0) ∧ w'.cell? ⟨w.heap.size + 1, 1, none⟩ = some (.int .i64 y1) ∧ w'.cell? ⟨w.heap.size + 1, 2, none⟩ = some (.int .i64 y2) ∧ w'.cell? ⟨w.heap.size + 1, 3, none⟩ = some (.int .i64 y3) ∧ w'.cell? ⟨w.heap.size + 1, 4, none⟩ = some (.int .i64 y4)) (first | go_keep | (refine ⟨?_, ?_, ?_, ?_, ?_, ?_, ?_, ?_, ?_, ?_⟩ <;> first | exact (bcell B2 _ _ (by simp; omega)).trans (by simp) | exact (bcell B2 _ _ (by simp)).trans (by simp))) ((go_at_call 80; refine (cost_one _ _ _ _ _ _ (k : Int) 2 _ (by first | exact row_one _ _ _ | exact row_drew (row_one _ _ _) | exact row_drew (row_two1 _ _ _ _) | exact row_drew (row_two2 _ _ _ _) | exact row_two1 _ _ _ _ | exact row_two2 _ _ _ _ | exact row_below (row_drew (row_two1 _ _ _ _)) hb1 (by simp; try omega) | exact row_below (row_drew (row_two2 _ _ _ _)) hb1 (by simp; try omega) | exact row_below (row_two1 _ _ _ _) hb1 (by simp; try omega) | exact row_below (row_two2 _ _ _ _) hb1 (by simp; try omega) | exact row_drew (row_below (row_drew (row_two1 _ _ _ _)) hb1 (by simp; try omega)) | exact row_drew (row_below (row_drew (row_two2 _ _ _ _)) hb1 (by simp; try omega)))).mono ?_; rintro e w1 ⟨rfl, hb2⟩; replace B2 : Below ((w.alloc (.cells #[.string x0, .int .i64 x1, .int .i64 x2, .int .i64 x3, .int .i64 x4] 34)).alloc (.cells #[.string y0, .int .i64 y1, .int .i64 y2, .int .i64 y3, .int .i64 y4] 34)).heap.size ((w.alloc (.cells #[.string x0, .int .i64 x1, .int .i64 x2, .int .i64 x3, .int .i64 x4] 34)).alloc (.cells #[.string y0, .int .i64 y1, .int .i64 y2, .int .i64 y3, .int .i64 y4] 34)) w1 := (by first | exact chain0 B2 hb2 | exact chain1 B2 hb2 | exact chain1d B2 hb2 | exact chain2 B2 hb2 | exact chain2d B2 hb2 | exact chaind B2 hb2); have hb1 := hb2))
        all_goals
          go_wp2
          go_roundw
          case rel => first | exact ⟨k + 1, by omega, by go_num, HN.out, B2⟩ | ((repeat apply Exists.intro); exact ⟨⟨k + 1, by omega, by go_num, HN.out, B2⟩, rfl⟩)
          case measure => simp [intOf]; omega
    · obtain rfl : k = 20001 := by omega
      have hv := HV.out
      unfold crossV at hv
      rw [HB.out.out] at hv
      simp only [Prod.mk.injEq] at hv
      have HVV := Lib.hid hv
      clear hv
      go_wp2
      go_ret2
      exact ⟨by rw [← HVV.out.1, ← HVV.out.2]; rfl, ((below_new w _).alloc (by simp) _).trans (hbel.mono (by simp; omega))⟩
end Go.Proofs.Ytabdpfagfempjaa
