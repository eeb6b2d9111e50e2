/- Sums over the elements of a list, as 64-bit additions one behind the other. -/
import Derived.Test.YtllmillhdmknpaaLib
namespace Go.Proofs.Ytllmillhdmknpaa
open Go.RowKit
theorem below2 {B : Nat} {w wr : World} (h : Below B w wr) (o1 o2 : Obj) (hB : B ≤ w.heap.size := by exact Nat.le_refl _) : Below B w ((wr.alloc o1).alloc o2) :=
  (h.alloc (Nat.le_trans hB h.size) _).alloc (by simp; exact Nat.le_succ_of_le (Nat.le_trans hB h.size)) _
/-- The sum of the f's below k for which c holds, each addition as the machine does it. -/
def foldC (c : Nat → Bool) (f : Nat → Int) : Nat → Int
  | 0 => 0
  | k + 1 => if c k = true then wrap64 (foldC c f k + f k) else foldC c f k
theorem foldC_yes {c : Nat → Bool} {f : Nat → Int} {k : Nat} (h : c k = true) : foldC c f (k + 1) = wrap64 (foldC c f k + f k) := by
  show (if c k = true then _ else _) = _
  rw [if_pos h]
theorem foldC_no {c : Nat → Bool} {f : Nat → Int} {k : Nat} (h : c k = false) : foldC c f (k + 1) = foldC c f k := by
  show (if c k = true then _ else _) = _
  rw [if_neg (by rw [h]; exact Bool.false_ne_true)]
/-- The sum of all f's below k. -/
def sumAll (f : Nat → Int) : Nat → Int
  | 0 => 0
  | k + 1 => wrap64 (sumAll f k + f k)
theorem sumAll_succ (f : Nat → Int) (k : Nat) : sumAll f (k + 1) = wrap64 (sumAll f k + f k) := rfl
theorem sumAll_congr {f g : Nat → Int} {n : Nat} (h : ∀ k, k < n → f k = g k) : sumAll f n = sumAll g n := by
  induction n with
  | zero => rfl
  | succ n ih => rw [sumAll_succ, sumAll_succ, ih (fun k hk => h k (by omega)), h n (by omega)]
theorem wrap64_id {z : Int} (h1 : -9223372036854775808 ≤ z) (h2 : z ≤ 9223372036854775807) : wrap64 z = z := by
  unfold wrap64; omega
theorem sumAll_bound {f : Nat → Int} {M : Int} (hM0 : 0 ≤ M) (hM : M ≤ 9000000000000) : ∀ n, n ≤ 1000000 → (∀ k, k < n → 0 ≤ f k ∧ f k ≤ M) → 0 ≤ sumAll f n ∧ sumAll f n ≤ n * M
  | 0, _, _ => by simp [sumAll]
  | n + 1, hn, h => by
    have ih := sumAll_bound hM0 hM n (by omega) (fun k hk => h k (by omega))
    have hk := h n (by omega)
    have hmul : ((n + 1 : Nat) : Int) * M = n * M + M := by rw [Int.natCast_add, Int.add_mul]; simp
    have hle : (n : Int) * M ≤ 1000000 * 9000000000000 := Int.mul_le_mul (by omega) hM hM0 (by omega)
    rw [sumAll_succ, wrap64_id (by omega) (by omega), hmul]
    omega
theorem sumAll_low {f : Nat → Int} {M : Int} (hM0 : 0 ≤ M) (hM : M ≤ 9000000000000) : ∀ n, n ≤ 1000000 → (∀ k, k < n → 1 ≤ f k ∧ f k ≤ M) → (n : Int) ≤ sumAll f n
  | 0, _, _ => by simp [sumAll]
  | n + 1, hn, h => by
    have ih := sumAll_low hM0 hM n (by omega) (fun k hk => h k (by omega))
    have hb := sumAll_bound hM0 hM n (by omega) (fun k hk => ⟨by have := (h k (by omega)).1; omega, (h k (by omega)).2⟩)
    have hk := h n (by omega)
    have hle : (n : Int) * M ≤ 1000000 * 9000000000000 := Int.mul_le_mul (by omega) hM hM0 (by omega)
    rw [sumAll_succ, wrap64_id (by omega) (by omega)]
    omega
/-- The first place of the greatest f below k. -/
def bestTo (f : Nat → Int) : Nat → Nat
  | 0 => 0
  | k + 1 => if f (bestTo f k) < f k then k else bestTo f k
theorem bestTo_yes {f : Nat → Int} {k : Nat} (h : f (bestTo f k) < f k) : bestTo f (k + 1) = k := by
  show (if _ then _ else _) = _
  rw [if_pos h]
theorem bestTo_no {f : Nat → Int} {k : Nat} (h : ¬ f (bestTo f k) < f k) : bestTo f (k + 1) = bestTo f k := by
  show (if _ then _ else _) = _
  rw [if_neg h]
theorem bestTo_one (f : Nat → Int) : bestTo f 1 = 0 := bestTo_no (by show ¬ f 0 < f 0; omega)
end Go.Proofs.Ytllmillhdmknpaa
