/- Small laws on deleting visits; the test and the search of the first to delete. -/
import Derived.Test.YtllmillhdmknpaaVisitV
import Derived.Test.YtllmillhdmknpaaFirst
import Derived.Test.YtllmillhdmknpaaSums
import Derived.Test.YtllmillhdmknpaaOwn
import Derived.Test.YtllmillhdmknpaaMore
import Derived.Lib.SliceRun
namespace Go.Proofs.Ytllmillhdmknpaa
open Go.RowKit
attribute [local go_sem ↓] Go.wp_at_zero Go.wp_at_succ
set_option linter.unusedVariables false

/-- The visits of one customer. -/
def kept (F1 : Nat → ByteArray) (who : ByteArray) (i : Nat) : Bool := (F1 i).toList == who.toList

/-- The kept ones of the first k stand one behind the other. -/
def Kp (F0 : Nat → Int) (F1 : Nat → ByteArray) (F2 : Nat → Int) (F3 : Nat → Int) (who : ByteArray) (h : Nat → Value) (k : Nat) : Prop := ∀ j, j < k → kept F1 who j = true → ∀ q, q < 4 → h (countP (kept F1 who) j * 4 + q) = rowVisit F0 F1 F2 F3 j q

theorem count_mono (p : Nat → Bool) {i j : Nat} (h : i ≤ j) : countP p i ≤ countP p j := by
  induction j with
  | zero => obtain rfl : i = 0 := by omega
            exact Nat.le_refl _
  | succ j ih =>
    by_cases e : i = j + 1
    · subst e; exact Nat.le_refl _
    · have := ih (by omega)
      cases hp : p j with
      | true => rw [count_yes hp]; omega
      | false => rw [count_no hp]; exact this

theorem count_lt (p : Nat → Bool) {i j : Nat} (h : i < j) (hp : p i = true) : countP p i < countP p j := by
  have := count_mono p (show i + 1 ≤ j by omega)
  rw [count_yes hp] at this
  omega

theorem count_all (p : Nat → Bool) : ∀ k, (∀ j, j < k → p j = true) → countP p k = k
  | 0, _ => rfl
  | k + 1, h => by rw [count_yes (h k (by omega)), count_all p k (fun j hj => h j (by omega))]

theorem count_next (p : Nat → Bool) (f : Nat → Int) {n j r : Nat} (hj : j ≤ n) (hc : countP p j = r) (hr : r < countP p n) : ∃ i, j ≤ i ∧ i < n ∧ p i = true ∧ countP p i = r ∧ foldC p f i = foldC p f j := by
  obtain ⟨d, hd⟩ : ∃ d, n - j = d := ⟨_, rfl⟩
  induction d generalizing j with
  | zero => obtain rfl : j = n := by omega
            omega
  | succ d ih =>
    cases hp : p j with
    | true => exact ⟨j, Nat.le_refl _, by omega, hp, hc, rfl⟩
    | false =>
      obtain ⟨i, h1, h2, h3, h4, h5⟩ := ih (j := j + 1) (by omega) (by rw [count_no hp]; exact hc) (by omega)
      exact ⟨i, by omega, h2, h3, h4, by rw [h5, foldC_no hp]⟩

theorem fold_stay (p : Nat → Bool) (f : Nat → Int) {n j : Nat} (hj : j ≤ n) (hc : countP p j = countP p n) : foldC p f j = foldC p f n := by
  obtain ⟨d, hd⟩ : ∃ d, n - j = d := ⟨_, rfl⟩
  induction d generalizing j with
  | zero => obtain rfl : j = n := by omega
            rfl
  | succ d ih =>
    cases hp : p j with
    | true =>
      have := count_lt p (show j < n by omega) hp
      omega
    | false =>
      rw [← ih (j := j + 1) (by omega) (by rw [count_no hp]; exact hc) (by omega), foldC_no hp]

theorem Kp.keep {F0 : Nat → Int} {F1 : Nat → ByteArray} {F2 : Nat → Int} {F3 : Nat → Int} {who : ByteArray} {h h2 : Nat → Value} {k : Nat} (hk : Kp F0 F1 F2 F3 who h k) (hp : kept F1 who k = true) (h1 : ∀ q, q < 4 → h2 (countP (kept F1 who) k * 4 + q) = rowVisit F0 F1 F2 F3 k q) (h3 : ∀ i, i < countP (kept F1 who) k * 4 → h2 i = h i) : Kp F0 F1 F2 F3 who h2 (k + 1) := by
  intro j hj hpj q hq
  by_cases e : j = k
  · subst e; exact h1 q hq
  · have hl := count_lt (kept F1 who) (show j < k by omega) hpj
    rw [h3 _ (by omega)]
    exact hk j (by omega) hpj q hq

theorem Kp.drop {F0 : Nat → Int} {F1 : Nat → ByteArray} {F2 : Nat → Int} {F3 : Nat → Int} {who : ByteArray} {h : Nat → Value} {k : Nat} (hk : Kp F0 F1 F2 F3 who h k) (hp : kept F1 who k = false) : Kp F0 F1 F2 F3 who h (k + 1) := by
  intro j hj hpj q hq
  by_cases e : j = k
  · subst e; rw [hp] at hpj; cases hpj
  · exact hk j (by omega) hpj q hq

theorem Kp.start {F0 : Nat → Int} {F1 : Nat → ByteArray} {F2 : Nat → Int} {F3 : Nat → Int} {who : ByteArray} {k : Nat} (ha : ∀ j, j < k → kept F1 who j = true) : Kp F0 F1 F2 F3 who (flat 4 (rowVisit F0 F1 F2 F3)) k := by
  intro j hj hpj q hq
  rw [count_all (kept F1 who) j (fun i hi => ha i (by omega)), flat_at _ _ _ _ hq]

theorem grown_trans {w a b : World} {g : Nat} (h1 : w.grownBy a (some g)) (h2 : a.grownBy b (some g)) : w.grownBy b (some g) :=
  ⟨h2.os.trans h1.os, h2.tape.trans h1.tape, h2.output.trans h1.output, Nat.le_trans h1.size h2.size, fun k hk hne => (h2.block k (Nat.lt_of_lt_of_le hk h1.size) hne).trans (h1.block k hk hne)⟩

theorem grown_below {w a : World} (g : Nat) (h : Below w.heap.size w a) : w.grownBy a (some g) := ⟨h.os, h.tape, h.output, h.size, fun k hk _ => h.block k hk⟩

theorem grown_set1 (w : World) (g j : Nat) (v : Value) : w.grownBy (w.setCell ⟨g, j, none⟩ v) (some g) :=
  ⟨rfl, rfl, rfl, by simp [World.setCell], fun k hk hne => by
    have : g ≠ k := fun e => hne (by rw [e])
    simp [World.setCell, Array.getElem?_modify, this]⟩

theorem grown_setCells (g : Nat) : ∀ (vs : List Value) (o : Nat) (w : World), w.grownBy (w.setCells g o vs) (some g)
  | [], _, w => World.grownBy.refl _ _
  | v :: r, o, w => grown_trans (grown_set1 w g o v) (grown_setCells g r (o + 1) _)

set_option maxHeartbeats 400000 in
theorem drop_any (x0 : Int) (x1 : ByteArray) (x2 : Int) (x3 : Int) (who : ByteArray) (bw : Nat) (w : World) (hw : bw < w.heap.size) (hc : w.cell? ⟨bw, 0, none⟩ = some (.string who)) :
    Calls Try.prog 162 #[.agg #[.int .i64 x0, .string x1, .int .i64 x2, .int .i64 x3], .pointer (some ⟨bw, 0, none⟩)] w fun e w' => e = .returned (.bool (!(x1.toList == who.toList))) ∧ w.alloc (.cells #[.int .i64 x0, .string x1, .int .i64 x2, .int .i64 x3] 150) = w' := by
  go_enter Try.func162, Try.ntmps162
  go_wp2
  go_ret
  exact ⟨rfl, rfl⟩

set_option maxHeartbeats 1000000 in
theorem idx_any (g n : Nat) (F0 : Nat → Int) (F1 : Nat → ByteArray) (F2 : Nat → Int) (F3 : Nat → Int) (who : ByteArray) (bw : Nat) (w : World) (t1 : TypeId) (hn : n ≤ 1048576) (h1 : w.rowIs g t1 (n * 4) (flat 4 (rowVisit F0 F1 F2 F3))) (hbw : bw < w.heap.size) (hc : w.cell? ⟨bw, 0, none⟩ = some (.string who)) :
    Calls Try.prog 175 #[.slice (some ⟨g, 0, none⟩) n n, .func (.func 162) #[] #[.pointer (some ⟨bw, 0, none⟩)]] w fun e w' => ∃ r : Int, ((r = -1 ∧ ∀ j, j < n → kept F1 who j = true) ∨ ∃ i : Nat, i < n ∧ r = (i : Int) ∧ kept F1 who i = false ∧ ∀ j, j < i → kept F1 who j = true) ∧ e = .returned (.int .i64 r) ∧ Below w.heap.size w w' := by
  have hl1 := h1.lt
  have HR1 := Lib.hid (RdVisit.of_row h1)
  clear h1
  go_enter Try.func175, Try.ntmps175
  go_wp2
  go_loopw [8] (fun i wr => ∃ (k : Nat), k ≤ n ∧ i = .int .i64 k ∧ (∀ j, j < k → kept F1 who j = true) ∧ Below w.heap.size w wr) (fun i _ => n - (intOf i).toNat)
  case atStart => exact ⟨0, Nat.zero_le _, rfl, fun j hj => absurd hj (by omega), Below.refl _ _⟩
  case round =>
    obtain ⟨k, hk, rfl, ha, hbel⟩ := hrel
    have HA := Lib.hid ha
    clear ha
    by_cases hlt : k < n
    · have hlti : (k : Int) < (n : Int) := by omega
      have hki : (0 : Int) ≤ (k : Int) := by omega
      obtain ⟨c0, c1, c2, c3⟩ := HR1.out k hlt
      have hbc := bcell hbel
      rw [← hbc _ _ hl1] at c0 c1 c2 c3
      simp only [Nat.zero_add] at c0 c1 c2 c3
      clear hbc
      have hcw := (bcell hbel _ _ hbw).trans hc
      have hbw2 : bw < wr.heap.size := Nat.lt_of_lt_of_le hbw hbel.size
      go_wp2_with fail
      refine (drop_any _ _ _ _ who bw _ hbw2 hcw).mono ?_
      rintro e w1 ⟨rfl, hw1⟩
      have hB : Below w.heap.size w w1 := by subst hw1; exact hbel.alloc hbel.size _
      clear hw1 c0 c1 c2 c3 hcw
      cases hp : kept F1 who k with
      | true =>
        have hp2 : ((F1 k).toList == who.toList) = true := hp
        have HA2 := Lib.hid (show ∀ j, j < k + 1 → kept F1 who j = true from fun j hj => if e : j = k then e ▸ hp else HA.out j (by omega))
        clear hp
        go_wp2
        go_roundw
        case rel => exact ⟨k + 1, by omega, by go_num, HA2.out, hB⟩
        case measure => simp [intOf]; omega
      | false =>
        have hp2 : ((F1 k).toList == who.toList) = false := hp
        have HP := Lib.hid hp
        clear hp
        go_wp2
        go_ret
        exact ⟨_, .inr ⟨k, hlt, rfl, HP.out, HA.out⟩, rfl, hB⟩
    · obtain rfl : k = n := by omega
      go_wp2
      go_ret
      exact ⟨-1, .inl ⟨rfl, HA.out⟩, rfl, hbel⟩

theorem zeroCells_one {z : Array Value} (hz : ∀ v ∈ z.toList, v.oneCell' = true) (n : Nat) : ∀ v ∈ (Builtin.zeroCells z n).toList, v.oneCell' = true := by
  intro v hv
  simp only [Builtin.zeroCells] at hv
  simp at hv
  obtain ⟨i, hi, rfl⟩ := hv
  by_cases h0 : i % z.size < z.size
  · rw [getElem!_pos z _ h0]
    exact hz _ (by simp)
  · exact absurd (Nat.mod_lt i (Nat.pos_of_ne_zero (fun h => by rw [h] at hi; simp at hi))) h0

theorem run_clear_rows {P : Program} (w : World) (t e ty : TypeId) (z : Value) (ht : P.underlying t = some (.slice e)) (hv : ∀ w, (zeroValue e).run P w = .ok z w) (hz1 : ∀ v ∈ z.cells.toList, v.oneCell' = true) (b o n c : Nat) (hn : 0 < n)
    (hc : ∀ j, j < n * z.cells.size → (w.cell? ⟨b, o + j, none⟩).isSome = true) (hf : ∀ j, w.frozen? ⟨b, o + j, none⟩ = false) :
    (Builtin.clear_ #[t] ty #[.slice (some ⟨b, o, none⟩) n c]).run P w = .ok (.tuple #[]) (w.setCells b o (Builtin.zeroCells z.cells n).toList) := by
  have hl : (Builtin.zeroCells z.cells n).toList.length = n * z.cells.size := by rw [Array.length_toList]; exact size_zeroCells _ _
  have hst := run_storeCells_cells (P := P) b o (Builtin.zeroCells z.cells n).toList 0 w (by rw [hl]; simpa using hc) (fun j _ => by simpa using hf j) (zeroCells_one hz1 n)
  simp only [Nat.add_zero] at hst
  obtain ⟨m, rfl⟩ : ∃ m, n = m + 1 := ⟨n - 1, by omega⟩
  simp [Builtin.clear_, run_underlying ht, hv, hst]
end Go.Proofs.Ytllmillhdmknpaa
