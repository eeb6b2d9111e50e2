/- Goods that are drawn, part 2: the goods. No statement of the program is proved here. -/
import Derived.Test.YtlegehjdojhfgaaGd
import Derived.Test.YtlegehjdojhfgaaMore
import Derived.Deep.AppendLies
namespace Go.Proofs.Ytlegehjdojhfgaa
open Go.RowKit
set_option linter.unusedVariables false

/-- The names of goods. -/
def nm (i : Nat) : ByteArray := match i with
  | 0 => ⟨#[98, 114, 105, 100, 103, 101]⟩
  | 1 => ⟨#[104, 97, 105, 114]⟩
  | 2 => ⟨#[112, 101, 103]⟩
  | 3 => ⟨#[112, 111, 115, 116]⟩
  | _ => ⟨#[114, 111, 115, 105, 110]⟩
theorem nm_less : (List.range 5).all (fun i => (List.range 5).all fun j => Op.bytesLess (nm i).data.toList (nm j).data.toList == decide (i < j)) = true := by decide +kernel
theorem less_nm {i j : Nat} (hi : i < 5) (hj : j < 5) : Op.bytesLess (nm i).toList (nm j).toList = decide (i < j) := by
  have h := nm_less
  rw [List.all_eq_true] at h
  have h2 := h i (by simpa using hi)
  rw [List.all_eq_true] at h2
  have h3 := h2 j (by simpa using hj)
  rw [ByteArray.toList_eq, ByteArray.toList_eq]
  simpa using h3
theorem nm_name : (List.range 5).all (fun i => nameB (nm i) && decide ((nm i).size ≤ 10)) = true := by decide +kernel
theorem name_nm {i : Nat} (hi : i < 5) : nameB (nm i) = true ∧ (nm i).size ≤ 10 := by
  have h := nm_name
  rw [List.all_eq_true] at h
  have h2 := h i (by simpa using hi)
  simpa using h2
theorem nm_inj : (List.range 5).all (fun i => (List.range 5).all fun j => (nm i == nm j) == decide (i = j)) = true := by decide +kernel

/-- The cells of a row of Goods. -/
def rowGood (F0 : Nat → ByteArray) (F1 : Nat → Int) (F2 : Nat → Int) (F3 : Nat → Int) (i j : Nat) : Value := match j with | 0 => .string (F0 i) | 1 => .int .i64 (F1 i) | 2 => .int .i64 (F2 i) | _ => .int .i64 (F3 i)

/-- A slice of Goods that can be read. -/
def RdGood (w : World) (b off n : Nat) (F0 : Nat → ByteArray) (F1 : Nat → Int) (F2 : Nat → Int) (F3 : Nat → Int) : Prop := ∀ i, i < n → w.cell? ⟨b, off + i * 4, none⟩ = some (.string (F0 i)) ∧ w.cell? ⟨b, off + i * 4 + 1, none⟩ = some (.int .i64 (F1 i)) ∧ w.cell? ⟨b, off + i * 4 + 2, none⟩ = some (.int .i64 (F2 i)) ∧ w.cell? ⟨b, off + i * 4 + 3, none⟩ = some (.int .i64 (F3 i))

theorem RdGood.of_part {w : World} {g n M : Nat} {t : TypeId} {F0 : Nat → ByteArray} {F1 : Nat → Int} {F2 : Nat → Int} {F3 : Nat → Int} (h : Part w g t M (n * 4) (flat 4 (rowGood F0 F1 F2 F3))) (hM : n * 4 ≤ M) : RdGood w g 0 n F0 F1 F2 F3 := by
  intro i hi
  refine ⟨?_, ?_, ?_, ?_⟩
  · have e := h.at (i := i * 4) (by omega) hM; rw [flat_at0 _ _ _ (by omega)] at e; simpa [rowGood] using e
  · have e := h.at (i := i * 4 + 1) (by omega) hM; rw [flat_at _ _ _ _ (by omega)] at e; simpa [rowGood] using e
  · have e := h.at (i := i * 4 + 2) (by omega) hM; rw [flat_at _ _ _ _ (by omega)] at e; simpa [rowGood] using e
  · have e := h.at (i := i * 4 + 3) (by omega) hM; rw [flat_at _ _ _ _ (by omega)] at e; simpa [rowGood] using e

theorem RdGood.below {w w' : World} {g n : Nat} {F0 : Nat → ByteArray} {F1 : Nat → Int} {F2 : Nat → Int} {F3 : Nat → Int} (h : RdGood w g 0 n F0 F1 F2 F3) (hb : Below w.heap.size w w') (hg : g < w.heap.size) : RdGood w' g 0 n F0 F1 F2 F3 := by
  intro i hi
  obtain ⟨c0, c1, c2, c3⟩ := h i hi
  exact ⟨(bcell hb _ _ hg).trans c0, (bcell hb _ _ hg).trans c1, (bcell hb _ _ hg).trans c2, (bcell hb _ _ hg).trans c3⟩

/-- Goods that were drawn. -/
structure Goods (n : Nat) (X : Nat → Nat) (C L Q : Nat → Int) : Prop where
  n5 : n ≤ 5
  x5 : ∀ i, i < n → X i < 5
  up : ∀ i j, i < j → j < n → X i < X j
  c : ∀ i, i < n → 0 ≤ C i ∧ C i ≤ 39
  l : ∀ i, i < n → 0 ≤ L i ∧ L i ≤ 39
  q : ∀ i, i < n → 0 ≤ Q i ∧ Q i ≤ 2950

theorem Src.other {w w' : World} {s n c t : Nat} {a : Option Addr} {r : Option Nat} (h : Src w s a n c t) (hg : w.grownBy w' r) (hne : some s ≠ r) : Src w' s a n c t := by
  obtain ⟨q, hr⟩ := h
  exact ⟨q, hr.of_block (hg.block s hr.lt hne)⟩
theorem Src.lt {w : World} {s n c t : Nat} {a : Option Addr} (h : Src w s a n c t) : s < w.heap.size := by
  obtain ⟨q, hr⟩ := h
  exact hr.lt

theorem Src.set {w : World} {s n c t p o : Nat} {a : Option Addr} {v : Value} (h : Src w s a n c t) (hne : s ≠ p) : Src (w.setCell ⟨p, o, none⟩ v) s a n c t :=
  h.other (grown_set (World.grownBy.refl _ _) _ _) (by simpa using hne)
theorem grown_trans {a b c : World} {r : Option Nat} (h1 : a.grownBy b r) (h2 : b.grownBy c r) : a.grownBy c r :=
  ⟨h2.os.trans h1.os, h2.tape.trans h1.tape, h2.output.trans h1.output, Nat.le_trans h1.size h2.size, fun k hk hne => (h2.block k (Nat.lt_of_lt_of_le hk h1.size) hne).trans (h1.block k hk hne)⟩
theorem grown_new {w w' : World} {r : Option Nat} {p o : Nat} {v : Value} (h : w.grownBy w' r) (hp : w.heap.size ≤ p) : w.grownBy (w'.setCell ⟨p, o, none⟩ v) r :=
  ⟨h.os, h.tape, h.output, by simpa [World.setCell] using h.size, fun k hk hne => by
    rw [← h.block k hk hne]
    have : p ≠ k := by omega
    simp [World.setCell, Array.getElem?_modify, this]⟩
theorem new_row4 (w : World) (a b c d : Value) (t : TypeId) : ∃ f, (w.alloc (.cells #[a, b, c, d] t)).rowIs w.heap.size t 4 f ∧ f 0 = a ∧ f 1 = b ∧ f 2 = c ∧ f 3 = d :=
  ⟨fun j => match j with | 0 => a | 1 => b | 2 => c | _ => d, World.rowIs_alloc w #[a, b, c, d] t _ (fun j hj => by
    match j, hj with
    | 0, _ => rfl
    | 1, _ => rfl
    | 2, _ => rfl
    | 3, _ => rfl), rfl, rfl, rfl, rfl⟩

set_option maxHeartbeats 2000000 in
theorem drawOne_any (s n c t : Nat) (a : Option Addr) (z : Nat → Int) (w0 w : World) (h0 : InBytes w0 a n z) (hm : n ≤ 1048576) (hB : Below w0.heap.size w0 w) (hsB : w0.heap.size ≤ s) (ht : t ≤ 900) (hs : Src w s a n c t) (id : ByteArray) :
    Calls Try.prog 19 #[.pointer (some ⟨s, 0, none⟩), .string id] w fun e w' => ∃ C L Q : Nat, C < 40 ∧ L < 40 ∧ Q < 60 ∧ e = .returned (.agg #[.string id, .int .i64 (C : Int), .int .i64 (L : Int), .int .i64 (50 * (Q : Int))]) ∧ Src w' s a n c (t + 3) ∧ w.grownBy w' (some s) := by
  go_enter Try.func19, Try.ntmps19
  go_wp2_with fail
  have hsl := hs.lt
  obtain ⟨f, hf, _⟩ := new_row4 w (.string ⟨#[]⟩) (.int .i64 0) (.int .i64 0) (.int .i64 0) 30
  obtain ⟨w1, hw1⟩ : ∃ w1, w1 = w.alloc (.cells #[.string ⟨#[]⟩, .int .i64 0, .int .i64 0, .int .i64 0] 30) := ⟨_, rfl⟩
  rw [← hw1] at hf ⊢
  have hg1 : w.grownBy w1 (some s) := by rw [hw1]; exact World.grownBy_alloc _ _ _
  have hs1 : Src w1 s a n c t := hs.other (r := none) (by rw [hw1]; exact World.grownBy_alloc _ _ _) (by simp)
  have hl1 : w1.heap.size = w.heap.size + 1 := by rw [hw1]; simp
  clear hw1
  have hB1 := below_mark hB hg1 hsB
  refine (pick_any s n c (t) 40 a z w1 (h0.below hB1) hm (by omega) hs1 (by omega) (by omega)).mono ?_
  rintro e w2 ⟨v1, hv1, rfl, hs2, hg2⟩
  have hB2 := below_mark hB1 hg2 hsB
  replace hf := row_other hf hg2 (by omega)
  have hl2 := hg2.size
  replace hg2 := grown_trans hg1 hg2
  go_wp2_with fail
  refine (pick_any s n c (t + 1) 40 a z w2 (h0.below hB2) hm (by omega) hs2 (by omega) (by omega)).mono ?_
  rintro e w3 ⟨v2, hv2, rfl, hs3, hg3⟩
  have hB3 := below_mark hB2 hg3 hsB
  replace hf := row_other hf hg3 (by omega)
  have hl3 := hg3.size
  replace hg3 := grown_trans hg2 hg3
  go_wp2_with fail
  obtain ⟨h, hh, e0, e1, e2, e3⟩ := new_row4 w3 (.string id) (.int .i64 (v1 : Int)) (.int .i64 (v2 : Int)) (.int .i64 0) 30
  obtain ⟨w4, hw4⟩ : ∃ w4, w4 = w3.alloc (.cells #[.string id, .int .i64 (v1 : Int), .int .i64 (v2 : Int), .int .i64 0] 30) := ⟨_, rfl⟩
  rw [← hw4] at hh ⊢
  have hg4 : w3.grownBy w4 (some s) := by rw [hw4]; exact World.grownBy_alloc _ _ _
  have hs4 : Src w4 s a n c (t + 1 + 1) := hs3.other (r := none) (by rw [hw4]; exact World.grownBy_alloc _ _ _) (by simp)
  have hl4 : w4.heap.size = w3.heap.size + 1 := by rw [hw4]; simp
  replace hf := row_other hf hg4 (by omega)
  clear hw4
  have hB4 := below_mark hB3 hg4 hsB
  replace hg4 := grown_trans hg3 hg4
  refine (pick_any s n c (t + 1 + 1) 60 a z w4 (h0.below hB4) hm (by omega) hs4 (by omega) (by omega)).mono ?_
  rintro e w5 ⟨v3, hv3, rfl, hs5, hg5⟩
  replace hf := row_other hf hg5 (by omega)
  replace hh := row_other hh hg5 (by omega)
  have hl5 := hg5.size
  replace hg5 := grown_trans hg4 hg5
  obtain ⟨PB, hPB⟩ : ∃ PB, PB = w3.heap.size := ⟨_, rfl⟩
  obtain ⟨RB, hRB⟩ : ∃ RB, RB = w.heap.size := ⟨_, rfl⟩
  rw [← hPB] at hh ⊢
  rw [← hRB] at hf ⊢
  have c0 : w5.cell? ⟨PB, 0, none⟩ = some (.string id) := by rw [← e0]; exact hh.cell (i := 0) (by omega)
  have c1 : w5.cell? ⟨PB, 1, none⟩ = some (.int .i64 (v1 : Int)) := by rw [← e1]; exact hh.cell (i := 1) (by omega)
  have c2 : w5.cell? ⟨PB, 2, none⟩ = some (.int .i64 (v2 : Int)) := by rw [← e2]; exact hh.cell (i := 2) (by omega)
  have c3 : w5.cell? ⟨PB, 3, none⟩ = some (.int .i64 0) := by rw [← e3]; exact hh.cell (i := 3) (by omega)
  have d0 := hf.cell (i := 0) (by omega)
  have d1 := hf.cell (i := 1) (by omega)
  have d2 := hf.cell (i := 2) (by omega)
  have d3 := hf.cell (i := 3) (by omega)
  have fc := hh.frozen 3
  have f0 := hf.frozen 0
  have f1 := hf.frozen 1
  have f2 := hf.frozen 2
  have f3 := hf.frozen 3
  have hne : ¬ PB = RB := by omega
  have hne2 : ¬ RB = PB := by omega
  have hsP : s < PB := by have := hs3.lt; omega
  have hsR : s < RB := by omega
  have hwP : w.heap.size ≤ PB := by omega
  have hwR : w.heap.size ≤ RB := by omega
  clear hf hh e0 e1 e2 e3 hPB hRB hl1 hl2 hl3 hl4 hl5
  go_wp2
  have hs6 : Src w5 s a n c (t + 3) := hs5
  have n1 : s ≠ PB := by omega
  have n2 : s ≠ RB := by omega
  refine bodyPost_ret (v := .agg #[.string id, .int .i64 (v1 : Int), .int .i64 (v2 : Int), .int .i64 (50 * (v3 : Int))]) ?_ rfl ⟨v1, v2, v3, hv1, hv2, hv3, rfl, ((((hs6.set n1).set n2).set n2).set n2).set n2, grown_new (grown_new (grown_new (grown_new (grown_new hg5 hwP) hwR) hwR) hwR) hwR⟩
  simp [results, Try.results19, go_sem, d0, d1, d2, d3]
end Go.Proofs.Ytlegehjdojhfgaa
