/- Plain words and small laws that the walks of this seat share: lists of cells, a block that is filled row by row, names. No statement of the program is proved here. -/
import Derived.WalkKit
import Derived.WalkSpells
import Derived.WalkLawsBesides
import Derived.Lib.Hide
import Derived.Laws.MakeOwn
import Derived.Deep.OwnRows
import Derived.Deep.QuietTactic
import Derived.BigQuiet
namespace Go.Proofs.Ytlegehjdojhfgaa
open Go.RowKit

/-- A number in a range. -/
def inB (n lo hi : Int) : Bool := decide (lo ≤ n) && decide (n ≤ hi)
theorem inB_true {n lo hi : Int} (h : inB n lo hi = true) : lo ≤ n ∧ n ≤ hi := by
  unfold inB at h; simpa using h
theorem inB_mk {n lo hi : Int} (h1 : lo ≤ n) (h2 : n ≤ hi) : inB n lo hi = true := by
  unfold inB; simp [h1, h2]

/-- All numbers below n. -/
def allB (n : Nat) (p : Nat → Bool) : Bool := (List.range n).all p
theorem allB_succ (n : Nat) (p : Nat → Bool) : allB (n + 1) p = (allB n p && p n) := by
  simp [allB, List.range_succ, List.all_append]
theorem allB_zero (p : Nat → Bool) : allB 0 p = true := rfl
theorem allB_false {n : Nat} {p : Nat → Bool} (k : Nat) (hk : k < n) (h : p k = false) : allB n p = false := by
  unfold allB
  rw [List.all_eq_false]
  exact ⟨k, by simpa using hk, by simp [h]⟩
theorem allB_at {n : Nat} {p : Nat → Bool} (h : allB n p = true) (k : Nat) (hk : k < n) : p k = true := by
  unfold allB at h
  rw [List.all_eq_true] at h
  exact h k (by simpa using hk)
theorem allB_congr {n : Nat} {p q : Nat → Bool} (h : ∀ k, k < n → p k = q k) : allB n p = allB n q := by
  induction n with
  | zero => rfl
  | succ n ih => rw [allB_succ, allB_succ, ih (fun k hk => h k (by omega)), h n (by omega)]

/-- A byte of a name, at place i. -/
def okc (s : ByteArray) (i : Nat) : Bool := if h : i < s.size then (inB (s[i].toNat : Int) 97 122 || (decide (i ≠ 0) && inB (s[i].toNat : Int) 48 57)) else true
/-- A name. -/
def nameB (s : ByteArray) : Bool := decide (s.size ≠ 0) && (decide (s.size ≤ 10) && allB s.size (okc s))
theorem okc_at (s : ByteArray) (k : Nat) (h : k < s.size) : okc s k = (inB (s[k].toNat : Int) 97 122 || (decide (k ≠ 0) && inB (s[k].toNat : Int) 48 57)) := by
  unfold okc; rw [dif_pos h]
theorem name_out (s : ByteArray) (k : Nat) (hk : k < s.size) (h : okc s k = false) : nameB s = false := by
  unfold nameB; rw [allB_false k hk h]; simp
theorem name_end (s : ByteArray) (h : allB s.size (okc s) = true) : nameB s = (decide (s.size ≠ 0) && decide (s.size ≤ 10)) := by
  unfold nameB; rw [h]; simp
theorem name_size {s : ByteArray} (h : nameB s = true) : s.size ≤ 10 := by
  unfold nameB at h; simp at h; exact h.2.1
theorem toList_nil (s : ByteArray) : s.toList = [] ↔ s.size = 0 := by
  rw [ByteArray.toList_eq]
  constructor
  · intro h; show s.data.size = 0; rw [← Array.length_toList, h]; rfl
  · intro h; apply List.eq_nil_of_length_eq_zero; rw [Array.length_toList]; exact h

/-- Rows of m cells each, one behind the other. -/
def flat (m : Nat) (f : Nat → Nat → Value) (j : Nat) : Value := f (j / m) (j % m)
theorem flat_at (m : Nat) (f : Nat → Nat → Value) (k j : Nat) (hj : j < m) : flat m f (k * m + j) = f k j := by
  unfold flat
  rw [Nat.mul_comm k m, Nat.mul_add_div (by omega), Nat.mul_add_mod, Nat.div_eq_of_lt hj, Nat.mod_eq_of_lt hj, Nat.add_zero]
theorem flat_at0 (m : Nat) (f : Nat → Nat → Value) (k : Nat) (hm : 0 < m) : flat m f (k * m) = f k 0 := flat_at m f k 0 hm

/-- The block g holds m cells, of which the first k are f's. -/
def Part (w : World) (g : Nat) (t : TypeId) (m k : Nat) (f : Nat → Value) : Prop := ∃ h : Nat → Value, w.rowIs g t m h ∧ ∀ i, i < k → h i = f i
section
variable {w w' : World} {g : Nat} {t : TypeId} {m k : Nat} {f : Nat → Value}
theorem Part.cell (h : Part w g t m k f) {i : Nat} (hi : i < m) : ∃ v, w.cell? ⟨g, i, none⟩ = some v := by
  obtain ⟨h', hr, _⟩ := h
  exact ⟨_, hr.cell hi⟩
theorem Part.frozen (h : Part w g t m k f) (i : Nat) : w.frozen? ⟨g, i, none⟩ = false := by
  obtain ⟨h', hr, _⟩ := h
  exact hr.frozen i
theorem Part.put (h : Part w g t m k f) {j : Nat} (hj : j = k) {v : Value} (hv : f k = v) : Part (w.setCell ⟨g, j, none⟩ v) g t m (k + 1) f := by
  subst hj
  obtain ⟨h', hr, hf⟩ := h
  refine ⟨_, hr.set j v, fun i hi => ?_⟩
  by_cases e : i = j
  · simp [e, hv]
  · simp only [if_neg e]; exact hf i (by omega)
theorem Part.upto (h : Part w g t m k f) {k' : Nat} (e : k = k') : Part w g t m k' f := e ▸ h
theorem Part.below {B : Nat} (h : Part w g t m k f) (hb : Below B w w') (hg : g < B) : Part w' g t m k f := by
  obtain ⟨h', hr, hf⟩ := h
  exact ⟨h', hr.of_block (hb.block g hg), hf⟩
theorem Part.lt (h : Part w g t m k f) : g < w.heap.size := by
  obtain ⟨h', hr, _⟩ := h
  exact hr.lt
theorem Part.made (w : World) (z : Array Value) (m : Nat) (t : TypeId) (f : Nat → Value) : Part (w.alloc (.cells (madeCells z m) t)) w.heap.size t m 0 f := by
  have hsz := size_madeCells z m
  refine ⟨fun i => ((madeCells z m)[i]?).getD default, ?_, fun i hi => absurd hi (by omega)⟩
  have := World.rowIs_alloc w (madeCells z m) t (fun i => ((madeCells z m)[i]?).getD default) (fun i hi => by rw [Array.getElem?_eq_getElem hi]; rfl)
  rw [hsz] at this
  exact this
theorem Part.whole (h : Part w g t m m f) : w.rowIs g t m f := by
  obtain ⟨h', hr, hf⟩ := h
  exact hr.congr hf
end
theorem row_below {w w' : World} {g B : Nat} {t : TypeId} {m : Nat} {f : Nat → Value} (h : w.rowIs g t m f) (hb : Below B w w') (hg : g < B) : w'.rowIs g t m f := h.of_block (hb.block g hg)

theorem bcell {W w1 : World} {B : Nat} (hb : Below B W w1) : (∀ b o, b < B → w1.cell? ⟨b, o, none⟩ = W.cell? ⟨b, o, none⟩) :=
  fun b o h => hb.cell (p := ⟨b, o, none⟩) h
theorem below_drewN {B : Nat} {a w : World} (h : Below B a w) (n : Nat) : Below B a (w.drewN n) := ⟨h.os, h.tape, h.output, h.size, h.block⟩
theorem below_new (w : World) (o : Obj) : Below w.heap.size w (w.alloc o) := (Below.refl _ _).alloc (Nat.le_refl _) _

theorem below_two {B : Nat} {w wr : World} (h : Below B w wr) (o1 o2 : Obj) (hB : B ≤ w.heap.size := by exact Nat.le_refl _) : Below B w ((wr.alloc o1).alloc o2).drew :=
  ((h.alloc (Nat.le_trans hB h.size) _).alloc (by simp; exact Nat.le_succ_of_le (Nat.le_trans hB h.size)) _).drew

/-- A world in which the blocks of W are as they were. -/
structure Ext (W : World) where
  v : World
  h : Below W.heap.size W v
instance (W : World) : Nonempty (Ext W) := ⟨⟨W, Below.refl _ _⟩⟩
/-- A region that draws its order, whose operations read the blocks that were there, and whose calls leave them as they were: one walk in the order of the text serves every order. -/
theorem wp_region_ext {P : Program} {id : Nat} {Q : Exit → Act → World → Prop} {a : Act} {w : World} {l : List Oper} (hm : P.follows .mixedOrders = true) (hB : Region.lexB .any l.toArray = true)
    (h : wpQuiet P l.toArray (fun w' => ∃ x : Ext w, w' = x.v) (fun a => ∀ w', (∃ x : Ext w, w' = x.v) → Q .normal a w') l a) : (Code.region id l.toArray true).wp P Q a w :=
  wp_region_quiet (C := fun w' => ∃ x : Ext w, w' = x.v) hm hB ⟨⟨_, (Below.refl _ _).drew⟩, rfl⟩ (by simpa using h)
theorem Ext.cell {W : World} {b o : Nat} {u : Value} (h : W.cell? ⟨b, o, none⟩ = some u) (hb : b < W.heap.size) (x : Ext W) : x.v.cell? ⟨b, o, none⟩ = some u := by
  rw [bcell x.h _ _ hb]; exact h
/-- A contract that leaves the old blocks alone, met in such a world. -/
theorem ext_call {P : Program} {f : FuncId} {args : Array Value} {W : World} {x : Ext W} {v : Value}
    (h : Calls P f args x.v fun e w' => e = .returned v ∧ Below x.v.heap.size x.v w') : Calls P f args x.v fun e w' => e = .returned v ∧ ∃ y : Ext W, w' = y.v :=
  h.mono fun _ w2 h2 => ⟨h2.1, ⟨w2, x.h.trans (h2.2.mono x.h.size)⟩, rfl⟩
theorem ext_same {P : Program} {f : FuncId} {args : Array Value} {W : World} {x : Ext W} {v : Value}
    (h : Calls P f args x.v fun e w' => e = .returned v ∧ x.v = w') : Calls P f args x.v fun e w' => e = .returned v ∧ ∃ y : Ext W, w' = y.v :=
  h.mono fun _ _ h2 => ⟨h2.1, x, h2.2.symm⟩
theorem ext_one {P : Program} {f : FuncId} {args : Array Value} {W : World} {x : Ext W} {v : Value} {o : Obj}
    (h : Calls P f args x.v fun e w' => e = .returned v ∧ x.v.alloc o = w') : Calls P f args x.v fun e w' => e = .returned v ∧ ∃ y : Ext W, w' = y.v :=
  ext_call (h.mono fun _ _ h2 => ⟨h2.1, by rw [← h2.2]; exact below_new _ _⟩)
theorem ext_two {P : Program} {f : FuncId} {args : Array Value} {W : World} {x : Ext W} {v : Value} {o o2 : Obj}
    (h : Calls P f args x.v fun e w' => e = .returned v ∧ (x.v.alloc o).alloc o2 = w') : Calls P f args x.v fun e w' => e = .returned v ∧ ∃ y : Ext W, w' = y.v :=
  ext_call (h.mono fun _ _ h2 => ⟨h2.1, by rw [← h2.2]; exact (below_new _ _).alloc (by simp) _⟩)

theorem still_quiet {P : Program} {f : FuncId} {args : Array Value} {w : World} {n : Nat} {v : Value}
    (h : Calls P f args (w.drewN n) fun e w' => e = .returned v ∧ w.drewN n = w') : Calls P f args (w.drewN n) fun e w' => e = .returned v ∧ ∃ m, w' = w.drewN m :=
  h.mono fun _ _ h2 => ⟨h2.1, n, h2.2.symm⟩
theorem below_ext {B : Nat} {w wr W1 : World} {o : Obj} (h : Below B w wr) (hW : Below (wr.alloc o).heap.size (wr.alloc o) W1) (hB : B ≤ w.heap.size := by exact Nat.le_refl _) : Below B w W1 :=
  (h.alloc (Nat.le_trans hB h.size) o).trans (hW.mono (by have := Nat.le_trans hB h.size; simp; omega))

/-- What a measure of size hands back: below 0, or what is left; then there are not too many elements. -/
def SzPost (n : Nat) (w : World) (e : Ending) (w' : World) : Prop := ∃ r : Int, (r < 0 ∨ (0 ≤ r ∧ r ≤ 1048576 ∧ n ≤ 1048576)) ∧ e = .returned (.int .i64 r) ∧ Below w.heap.size w w'

theorem run_make_rowN {P : Program} (t e : TypeId) (i : TypeInfo) (z : Value) (ht : P.underlying t = some (.slice e)) (hi : P.info? e = some i) (hz : i.zero = some z)
    (kl kc : IntKind) (n c : Nat) (hnc : n ≤ c) (hbytes : i.bytes * c ≤ 281474976710656) (h63 : c ≤ 9223372036854775807) (w : World) :
    (Instr.makeSlice t (.int kl (n : Int)) (.int kc (c : Int))).run P w = .ok (.slice (some ⟨w.heap.size, 0, none⟩) n c) (w.alloc (.cells (madeCells z.cells (c * i.size)) e)) := by
  have hb : (i.bytes : Int) * (c : Int) ≤ 281474976710656 := by
    have h : ((i.bytes * c : Nat) : Int) ≤ 281474976710656 := by omega
    rwa [Int.natCast_mul] at h
  have hr := run_make (P := P) w t e i z ht hi hz kl kc n c (by omega) (by omega) hb (by omega)
  simp only [Int.toNat_natCast] at hr
  exact hr
end Go.Proofs.Ytlegehjdojhfgaa
