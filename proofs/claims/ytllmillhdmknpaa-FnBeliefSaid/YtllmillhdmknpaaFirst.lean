/- The first number that meets a test, among the first k; and a count. -/
import Derived.Test.YtllmillhdmknpaaLib
namespace Go.Proofs.Ytllmillhdmknpaa
/-- The first j below k with p j, and 0; or 0 and 3 if there is none. -/
def firstP (p : Nat → Bool) : Nat → Int × Int
  | 0 => (0, 3)
  | k + 1 => if (firstP p k).2 = 0 then firstP p k else if p k = true then ((k : Int), 0) else (0, 3)
theorem first_yes {p : Nat → Bool} {k : Nat} (h : firstP p k = (0, 3)) (hp : p k = true) : firstP p (k + 1) = ((k : Int), 0) := by
  show (if _ then _ else _) = _
  rw [h, if_neg (by decide), if_pos hp]
theorem first_no {p : Nat → Bool} {k : Nat} (h : firstP p k = (0, 3)) (hp : p k = false) : firstP p (k + 1) = (0, 3) := by
  show (if _ then _ else _) = _
  rw [h, if_neg (by decide), if_neg (by rw [hp]; exact Bool.false_ne_true)]
theorem first_stay {p : Nat → Bool} {k : Nat} {r : Int × Int} (h : firstP p k = r) (hr : r.2 = 0) : ∀ n, k ≤ n → firstP p n = r
  | 0, hn => by obtain rfl : k = 0 := by omega
                exact h
  | n + 1, hn => by
    by_cases e : k = n + 1
    · subst e; exact h
    · have ih := first_stay h hr n (by omega)
      show (if _ then _ else _) = _
      rw [ih, if_pos hr]
/-- How many j below k meet p. -/
def countP (p : Nat → Bool) : Nat → Nat
  | 0 => 0
  | k + 1 => if p k = true then countP p k + 1 else countP p k
theorem count_yes {p : Nat → Bool} {k : Nat} (h : p k = true) : countP p (k + 1) = countP p k + 1 := by
  show (if _ then _ else _) = _
  rw [if_pos h]
theorem count_no {p : Nat → Bool} {k : Nat} (h : p k = false) : countP p (k + 1) = countP p k := by
  show (if _ then _ else _) = _
  rw [if_neg (by rw [h]; exact Bool.false_ne_true)]
theorem count_le (p : Nat → Bool) : ∀ k, countP p k ≤ k
  | 0 => Nat.le_refl _
  | k + 1 => by
    have ih := count_le p k
    cases h : p k with
    | true => rw [count_yes h]; omega
    | false => rw [count_no h]; omega
end Go.Proofs.Ytllmillhdmknpaa
