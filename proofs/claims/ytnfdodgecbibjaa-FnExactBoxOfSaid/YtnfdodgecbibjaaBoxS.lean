/- The contracts of BoxOf: the reference. -/
import Derived.Test.YtnfdodgecbibjaaArcL
import Derived.Test.YtnfdodgecbibjaaRes
import Derived.Test.YtnfdodgecbibjaaMore
import Derived.StillTailTactics
namespace Go.Proofs.Ytnfdodgecbibjaa
open Go.RowKit
attribute [local go_sem ↓] Go.wp_at_zero Go.wp_at_succ
set_option linter.unusedVariables false

/-- The least and the greatest f among the first k (the first at least). -/
def minTo (f : Nat → Int) : Nat → Int
  | 0 => f 0
  | k + 1 => min (minTo f k) (f k)
def maxTo (f : Nat → Int) : Nat → Int
  | 0 => f 0
  | k + 1 => max (maxTo f k) (f k)

theorem minTo_succ (f : Nat → Int) (k : Nat) : minTo f (k + 1) = min (minTo f k) (f k) := rfl
theorem maxTo_succ (f : Nat → Int) (k : Nat) : maxTo f (k + 1) = max (maxTo f k) (f k) := rfl
theorem minTo_one (f : Nat → Int) : minTo f 1 = f 0 := by show min (f 0) (f 0) = f 0; omega
theorem maxTo_one (f : Nat → Int) : maxTo f 1 = f 0 := by show max (f 0) (f 0) = f 0; omega

/-- The bounds of the first k. -/
def boxZ (F2 F3 : Nat → Int) (k : Nat) (j : Nat) : Int := match j with | 0 => minTo F2 k | 1 => minTo F3 k | 2 => maxTo F2 k | _ => maxTo F3 k

@[local go_sem high] theorem run_min2 {P : Program} (w : World) (ts : Array TypeId) (t : TypeId) (k k1 : IntKind) (x y : Int) : (Builtin.min_ ts t #[.int k x, .int k1 y]).run P w = .ok (.int k (min x y)) w := by
  rw [run_min_int2]
  have e : min x y = if y < x then y else x := by split <;> omega
  rw [e]

@[local go_sem high] theorem run_max2 {P : Program} (w : World) (ts : Array TypeId) (t : TypeId) (k k1 : IntKind) (x y : Int) : (Builtin.max_ ts t #[.int k x, .int k1 y]).run P w = .ok (.int k (max x y)) w := by
  rw [run_max_int2]
  have e : max x y = if y > x then y else x := by split <;> omega
  rw [e]

theorem box_new (w : World) (t : TypeId) (F2 F3 : Nat → Int) (k : Nat) (a b c d : Int) (ha : minTo F2 k = a) (hb : minTo F3 k = b) (hc : maxTo F2 k = c) (hd : maxTo F3 k = d) : (w.alloc (.cells #[.int .i64 a, .int .i64 b, .int .i64 c, .int .i64 d] t)).rowIs w.heap.size t 4 (rowI (boxZ F2 F3 k)) :=
  World.rowIs_alloc w #[.int .i64 a, .int .i64 b, .int .i64 c, .int .i64 d] t _ (fun j hj => by
    match j, hj with
    | 0, _ => simp [rowI, boxZ, ha]
    | 1, _ => simp [rowI, boxZ, hb]
    | 2, _ => simp [rowI, boxZ, hc]
    | 3, _ => simp [rowI, boxZ, hd])

theorem box_at {w : World} {g k : Nat} {t : TypeId} {F2 F3 : Nat → Int} (h : w.rowIs g t 4 (rowI (boxZ F2 F3 k))) : w.cell? ⟨g, 0, none⟩ = some (.int .i64 (minTo F2 k)) ∧ w.cell? ⟨g, 1, none⟩ = some (.int .i64 (minTo F3 k)) ∧ w.cell? ⟨g, 2, none⟩ = some (.int .i64 (maxTo F2 k)) ∧ w.cell? ⟨g, 3, none⟩ = some (.int .i64 (maxTo F3 k)) :=
  ⟨h.cell (i := 0) (by omega), h.cell (i := 1) (by omega), h.cell (i := 2) (by omega), h.cell (i := 3) (by omega)⟩

theorem box_set {w : World} {g k : Nat} {t : TypeId} {F2 F3 : Nat → Int} (h : w.rowIs g t 4 (rowI (boxZ F2 F3 k))) : ((((w.setCell ⟨g, 0, none⟩ (.int .i64 (min (minTo F2 k) (F2 k)))).setCell ⟨g, 1, none⟩ (.int .i64 (min (minTo F3 k) (F3 k)))).setCell ⟨g, 2, none⟩ (.int .i64 (max (maxTo F2 k) (F2 k)))).setCell ⟨g, 3, none⟩ (.int .i64 (max (maxTo F3 k) (F3 k)))).rowIs g t 4 (rowI (boxZ F2 F3 (k + 1))) :=
  ((((h.set 0 _).set 1 _).set 2 _).set 3 _).congr (fun j hj => by
    match j, hj with
    | 0, _ => rfl
    | 1, _ => rfl
    | 2, _ => rfl
    | 3, _ => rfl)

/-- The bounds, half of them of one more. -/
def boxH (F2 F3 : Nat → Int) (k : Nat) (j : Nat) : Int := match j with | 0 => min (minTo F2 k) (F2 k) | 1 => min (minTo F3 k) (F3 k) | 2 => maxTo F2 k | _ => maxTo F3 k

theorem box_half {w : World} {g k : Nat} {t : TypeId} {F2 F3 : Nat → Int} (h : w.rowIs g t 4 (rowI (boxZ F2 F3 k))) : ((w.setCell ⟨g, 0, none⟩ (.int .i64 (min (minTo F2 k) (F2 k)))).setCell ⟨g, 1, none⟩ (.int .i64 (min (minTo F3 k) (F3 k)))).rowIs g t 4 (rowI (boxH F2 F3 k)) :=
  ((h.set 0 _).set 1 _).congr (fun j hj => by
    match j, hj with
    | 0, _ => rfl
    | 1, _ => rfl
    | 2, _ => rfl
    | 3, _ => rfl)

theorem box_rest {w : World} {g k : Nat} {t : TypeId} {F2 F3 : Nat → Int} (h : w.rowIs g t 4 (rowI (boxH F2 F3 k))) : ((w.setCell ⟨g, 2, none⟩ (.int .i64 (max (maxTo F2 k) (F2 k)))).setCell ⟨g, 3, none⟩ (.int .i64 (max (maxTo F3 k) (F3 k)))).rowIs g t 4 (rowI (boxZ F2 F3 (k + 1))) :=
  ((h.set 2 _).set 3 _).congr (fun j hj => by
    match j, hj with
    | 0, _ => rfl
    | 1, _ => rfl
    | 2, _ => rfl
    | 3, _ => rfl)

theorem boxH_at {w : World} {g k : Nat} {t : TypeId} {F2 F3 : Nat → Int} (h : w.rowIs g t 4 (rowI (boxH F2 F3 k))) : w.cell? ⟨g, 0, none⟩ = some (.int .i64 (min (minTo F2 k) (F2 k))) ∧ w.cell? ⟨g, 1, none⟩ = some (.int .i64 (min (minTo F3 k) (F3 k))) ∧ w.cell? ⟨g, 2, none⟩ = some (.int .i64 (maxTo F2 k)) ∧ w.cell? ⟨g, 3, none⟩ = some (.int .i64 (maxTo F3 k)) :=
  ⟨h.cell (i := 0) (by omega), h.cell (i := 1) (by omega), h.cell (i := 2) (by omega), h.cell (i := 3) (by omega)⟩

set_option maxHeartbeats 400000 in
theorem l00Min_still (a b : Int) (w : World) :
    Calls Try.prog 33 #[.int .i64 a, .int .i64 b] w fun e w' => e = .returned (.int .i64 (min a b)) ∧ w' = w := by
  by_cases h : a < b
  · have HF := Lib.hid (show min a b = a by omega)
    go_enter Try.func33, Try.ntmps33
    go_wp2
    go_ret
    exact ⟨by rw [HF.out]; rfl, rfl⟩
  · have HF := Lib.hid (show min a b = b by omega)
    go_enter Try.func33, Try.ntmps33
    go_wp2
    all_goals (go_ret; exact ⟨by rw [HF.out]; first | rfl | (simp; omega), rfl⟩)

set_option maxHeartbeats 400000 in
theorem l00Max_still (a b : Int) (w : World) :
    Calls Try.prog 34 #[.int .i64 a, .int .i64 b] w fun e w' => e = .returned (.int .i64 (max a b)) ∧ w' = w := by
  by_cases h : b < a
  · have HF := Lib.hid (show max a b = a by omega)
    go_enter Try.func34, Try.ntmps34
    go_wp2
    go_ret
    exact ⟨by rw [HF.out]; rfl, rfl⟩
  · have HF := Lib.hid (show max a b = b by omega)
    go_enter Try.func34, Try.ntmps34
    go_wp2
    all_goals (go_ret; exact ⟨by rw [HF.out]; first | rfl | (simp; omega), rfl⟩)

set_option maxHeartbeats 2000000 in
theorem specBoxOf_no (g n : Nat) (F0 : Nat → Int) (F1 : Nat → Int) (F2 : Nat → Int) (F3 : Nat → Int) (F4 : Nat → Int) (F5 : Nat → Int)  (w : World) (t1 : TypeId) (hn : n ≤ 1048576) (h1 : w.rowIs g t1 (n * 6) (flat 6 (rowArc F0 F1 F2 F3 F4 F5)))  (e0 : listArc n F0 F1 F2 F3 F4 F5 = false) :
    Calls Try.prog 15 #[.slice (some ⟨g, 0, none⟩) n n] w fun e w' => e = .returned (.tuple #[.slice none 0 0, .int .i64 1]) ∧ Below w.heap.size w w' := by
  have hl1 := h1.lt
  have HR1 := Lib.hid (RdArc.of_row h1)
  have H1 := Lib.hid h1
  clear h1 
  go_enter Try.func15, Try.ntmps15
  go_wp2_with fail
  refine (OkArc_any _ _ F0 F1 F2 F3 F4 F5 _ _ hn H1.out).mono ?_
  rintro e w1 ⟨rfl, hb1⟩
  go_wp2
  go_ret2
  exact ⟨rfl, hb1⟩

set_option maxHeartbeats 4000000 in
theorem specBoxOf_yes (g n : Nat) (F0 : Nat → Int) (F1 : Nat → Int) (F2 : Nat → Int) (F3 : Nat → Int) (F4 : Nat → Int) (F5 : Nat → Int)  (w : World) (t1 : TypeId) (hn : n ≤ 1048576) (h1 : w.rowIs g t1 (n * 6) (flat 6 (rowArc F0 F1 F2 F3 F4 F5)))  (e0 : listArc n F0 F1 F2 F3 F4 F5 = true) :
    Calls Try.prog 15 #[.slice (some ⟨g, 0, none⟩) n n] w fun e w' => ∃ g1, e = .returned (.tuple #[.slice (some ⟨g1, 0, none⟩) 4 4, .int .i64 0]) ∧ w.heap.size ≤ g1 ∧ w'.rowIs g1 2 4 (rowI (boxZ F2 F3 n)) ∧ Below w.heap.size w w' := by
  have hl1 := h1.lt
  have HR1 := Lib.hid (RdArc.of_row h1)
  have H1 := Lib.hid h1
  clear h1 
  obtain ⟨hn2, hn16⟩ := listArc_n e0
  obtain ⟨a0, a1, a2, a3, a4, a5⟩ := HR1.out 0 (by omega)
  go_enter Try.func15, Try.ntmps15
  go_wp2_with fail
  refine (OkArc_any _ _ F0 F1 F2 F3 F4 F5 _ _ hn H1.out).mono ?_
  rintro e w1 ⟨rfl, hb1⟩
  rw [← bcell hb1 _ _ hl1] at a0 a1 a2 a3 a4 a5
  simp only [Nat.zero_add, Nat.zero_mul] at a0 a1 a2 a3 a4 a5
  have hn0 : (0 : Int) < (n : Int) := by omega
  have hB0 : w.heap.size ≤ w1.heap.size := hb1.size
  go_wp2
  clear a0 a1 a2 a3 a4 a5
  go_loopw [5, 6] (fun v i wr => ∃ (k g1 : Nat), k ≤ n ∧ i = .int .i64 k ∧ v = .slice (some ⟨g1, 0, none⟩) 4 4 ∧ w.heap.size ≤ g1 ∧ wr.rowIs g1 2 4 (rowI (boxZ F2 F3 k)) ∧ Below w.heap.size w wr) (fun _ i _ => n - (intOf i).toNat)
  case atStart => exact ⟨1, w1.heap.size + 1, by omega, rfl, rfl, by omega, by simpa using box_new (w1.alloc (.cells #[.int .i64 (F2 0), .int .i64 (F3 0)] 41)) 2 F2 F3 1 _ _ _ _ (minTo_one _) (minTo_one _) (maxTo_one _) (maxTo_one _), ((hb1.alloc hb1.size _).alloc (by simp; omega) _)⟩
  case round =>
    obtain ⟨k, g1, hk, rfl, rfl, hg1, hr, hbel⟩ := hrel
    by_cases hlt : k < n
    · have hlti : (k : Int) < (n : Int) := by omega
      have hki : (0 : Int) ≤ (k : Int) := by omega
      obtain ⟨c0, c1, c2, c3, c4, c5⟩ := HR1.out k hlt
      have hbc := bcell hbel
      rw [← hbc _ _ hl1] at c0 c1 c2 c3 c4 c5
      simp only [Nat.zero_add] at c0 c1 c2 c3 c4 c5
      clear hbc
      have c3b : wr.cell? ⟨g, k * 6 + 2 + 1, none⟩ = some (.int .i64 (F3 k)) := c3
      have hlw := hr.lt
      go_wp2
      refine wp_region_still_tail 24 (by kernel_rfl) (by kernel_rfl) ?_
      obtain ⟨W2, hW2⟩ : ∃ W2, W2 = (wr.alloc (.cells #[.int .i64 (F2 k), .int .i64 (F3 k)] 41)).drew := ⟨_, rfl⟩
      show wpStill _ _ (World.drew _) (fun a' => wpList _ _ _ _ a' (World.drew _)) _ _
      rw [← hW2]
      have hB2 : Below w.heap.size w W2 := by rw [hW2]; exact (hbel.alloc hbel.size _).drew
      have hs2 : wr.heap.size + 1 = W2.heap.size := by rw [hW2]; simp
      have hr2 : W2.rowIs g1 2 4 (rowI (boxZ F2 F3 k)) := by rw [hW2]; exact hr.alloc _
      have p0 : W2.cell? ⟨wr.heap.size, 0, none⟩ = some (.int .i64 (F2 k)) := by rw [hW2]; simp
      have p1 : W2.cell? ⟨wr.heap.size, 1, none⟩ = some (.int .i64 (F3 k)) := by rw [hW2]; simp
      clear hW2 hr
      obtain ⟨d0, d1, d2, d3⟩ := box_at hr2
      clear hr2
      simp only [List.take_succ_cons, List.take_zero, List.drop_succ_cons, List.drop_zero]
      repeat (first | still_step | still_call (l00Min_still _ _ _) | still_call (l00Max_still _ _ _))
      refine wpStill_nil ?_
      go_wp2
      have HN := Lib.hid (box_new W2 2 F2 F3 (k + 1) _ _ _ _ rfl rfl rfl rfl)
      have hB2s := hB2.size
      go_roundw
      case rel => first | exact ⟨k + 1, W2.heap.size, by omega, by go_num, rfl, by omega, HN.out, hB2.alloc hB2.size _⟩ | ((repeat apply Exists.intro); exact ⟨⟨k + 1, W2.heap.size, by omega, by go_num, rfl, by omega, HN.out, hB2.alloc hB2.size _⟩, rfl⟩)
      case measure => simp [intOf]; omega
    · obtain rfl : k = n := by omega
      go_wp2
      go_ret2
      exact ⟨_, rfl, hg1, hr, hbel⟩
end Go.Proofs.Ytnfdodgecbibjaa
