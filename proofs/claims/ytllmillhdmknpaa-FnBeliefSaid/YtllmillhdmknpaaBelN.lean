/- Plain numbers: beliefs as two numbers, their votes, and what the finite check says. No program in sight. -/
import Derived.Test.YtllmillhdmknpaaLib
namespace Go.Proofs.Ytllmillhdmknpaa
/-- As long as one is too great, both are divided by 10. -/
def nrm : Nat → Nat → Nat → Nat × Nat
  | 0, y, n => (y, n)
  | f + 1, y, n => if 1000000000000 < y ∨ 1000000000000 < n then nrm f (y / 10) (n / 10) else (y, n)
def vt (p : Nat × Nat) (s : Nat) : Nat × Nat := nrm 20 (p.1 * s) (p.2 * (1000 - s))
def sh (yes : Bool) (s : Nat) : Nat := if yes = true then s else 1000 - s
def bel (z : Nat → Nat) (b : Nat → Bool) (p : Nat × Nat) : Nat → Nat × Nat
  | 0 => p
  | k + 1 => vt (bel z b p k) (sh (b k) (z k))
def raw (z : Nat → Nat) (b : Nat → Bool) (p : Nat × Nat) : Nat → Nat × Nat
  | 0 => p
  | k + 1 => ((raw z b p k).1 * sh (b k) (z k), (raw z b p k).2 * (1000 - sh (b k) (z k)))
def valN (p : Nat × Nat) : Nat := 1000 * p.1 / (p.1 + p.2)
def quoN (p : Nat × Nat) : Nat := valN (nrm 20 p.1 p.2)
theorem nrm_small {f y n : Nat} (hy : y ≤ 1000000000000) (hn : n ≤ 1000000000000) : nrm f y n = (y, n) := by
  cases f with
  | zero => rfl
  | succ f => show (if _ then _ else _) = _; rw [if_neg (by omega)]
theorem nrm_big {f y n : Nat} (h : 1000000000000 < y ∨ 1000000000000 < n) : nrm (f + 1) y n = nrm f (y / 10) (n / 10) := by
  show (if _ then _ else _) = _; rw [if_pos h]
theorem pow_down {f y : Nat} (h : y ≤ 1000000000000 * 10 ^ (f + 1)) : y / 10 ≤ 1000000000000 * 10 ^ f := by
  rw [Nat.pow_succ] at h; omega
theorem nrm_le : ∀ f y n : Nat, y ≤ 1000000000000 * 10 ^ f → n ≤ 1000000000000 * 10 ^ f → (nrm f y n).1 ≤ 1000000000000 ∧ (nrm f y n).2 ≤ 1000000000000
  | 0, y, n, hy, hn => by simp at hy hn; exact ⟨hy, hn⟩
  | f + 1, y, n, hy, hn => by
    by_cases h : 1000000000000 < y ∨ 1000000000000 < n
    · rw [nrm_big h]; exact nrm_le f _ _ (pow_down hy) (pow_down hn)
    · rw [nrm_small (by omega) (by omega)]; exact ⟨by show y ≤ _; omega, by show n ≤ _; omega⟩
theorem nrm_pos : ∀ f y n : Nat, 0 < y + n → 0 < (nrm f y n).1 + (nrm f y n).2
  | 0, y, n, h => h
  | f + 1, y, n, h => by
    by_cases hb : 1000000000000 < y ∨ 1000000000000 < n
    · rw [nrm_big hb]; exact nrm_pos f _ _ (by omega)
    · rw [nrm_small (by omega) (by omega)]; exact h
theorem big20 {x : Nat} (h : x ≤ 1000000000000000000) : x ≤ 1000000000000 * 10 ^ 20 := by
  have e : (1000000000000 : Nat) * 10 ^ 20 = 100000000000000000000000000000000 := by decide
  rw [e]; omega
theorem mul_bd {y s : Nat} (hy : y ≤ 1000000000000) (hs : s ≤ 1000) : y * s ≤ 1000000000000000 := Nat.mul_le_mul hy hs
theorem sh_le (b : Bool) {s : Nat} (h : s ≤ 1000) : sh b s ≤ 1000 := by unfold sh; split <;> omega
theorem vt_le {p : Nat × Nat} {s : Nat} (h1 : p.1 ≤ 1000000000000) (h2 : p.2 ≤ 1000000000000) (hs : s ≤ 1000) : (vt p s).1 ≤ 1000000000000 ∧ (vt p s).2 ≤ 1000000000000 :=
  nrm_le 20 _ _ (big20 (by have := mul_bd h1 hs; omega)) (big20 (by have := mul_bd h2 (show 1000 - s ≤ 1000 by omega); omega))
theorem bel_le {z : Nat → Nat} {b : Nat → Bool} {p : Nat × Nat} (h1 : p.1 ≤ 1000) (h2 : p.2 ≤ 1000) (hz : ∀ i, z i ≤ 1000) : ∀ k, (bel z b p k).1 ≤ 1000000000000 ∧ (bel z b p k).2 ≤ 1000000000000
  | 0 => ⟨by show p.1 ≤ _; omega, by show p.2 ≤ _; omega⟩
  | k + 1 => vt_le (bel_le h1 h2 hz k).1 (bel_le h1 h2 hz k).2 (sh_le _ (hz k))
theorem raw_le {z : Nat → Nat} {b : Nat → Bool} {p : Nat × Nat} (h1 : p.1 ≤ 1000) (h2 : p.2 ≤ 1000) (hz : ∀ i, z i ≤ 1000) : ∀ k, (raw z b p k).1 ≤ 1000 * 1000 ^ k ∧ (raw z b p k).2 ≤ 1000 * 1000 ^ k
  | 0 => ⟨by show p.1 ≤ _; simpa using h1, by show p.2 ≤ _; simpa using h2⟩
  | k + 1 => by
    have ih := raw_le (b := b) h1 h2 hz k
    have hs := sh_le (b k) (hz k)
    rw [Nat.pow_succ, ← Nat.mul_assoc]
    exact ⟨Nat.mul_le_mul ih.1 hs, Nat.mul_le_mul ih.2 (show 1000 - sh (b k) (z k) ≤ 1000 by omega)⟩
theorem pow_le5 {k : Nat} (h : k ≤ 5) : 1000 * 1000 ^ k ≤ 1000000000000000000 := by
  have : 1000 ^ k ≤ 1000 ^ 5 := Nat.pow_le_pow_right (by omega) h
  have e : (1000 : Nat) * 1000 ^ 5 = 1000000000000000000 := by decide
  have := Nat.mul_le_mul_left 1000 this
  omega
/-- What is asked of two numbers: all that the law compares. -/
def checkP (B S : Nat) : Bool :=
  let p := (B, 1000 - B)
  let c := fun _ : Nat => S
  let t := fun _ : Nat => true
  let f := fun k : Nat => decide (k = 0)
  let q := fun k : Nat => decide ((raw c t p k).1 + (raw c t p k).2 ≠ 0) && (decide ((bel c t p k).1 + (bel c t p k).2 ≠ 0) && decide (valN (bel c t p k) = quoN (raw c t p k)))
  decide (valN (bel (fun _ => 500) t p 1) = B) && (decide ((bel (fun _ => 500) t p 1).1 + (bel (fun _ => 500) t p 1).2 ≠ 0) && (decide (valN (bel c f p 2) = B) && (decide ((bel c f p 2).1 + (bel c f p 2).2 ≠ 0) && (decide ((bel c (fun _ => false) p 1).1 + (bel c (fun _ => false) p 1).2 ≠ 0) && (decide (valN (bel c (fun _ => false) p 1) ≤ B) && (decide (B ≤ valN (bel c t p 1)) && (decide (valN (bel c t p 1) ≤ valN (bel c t p 2)) && (decide (valN (bel c t p 2) ≤ 1000) && (decide (valN (bel c t p 1) = 1000 * B * S / (B * S + (1000 - B) * (1000 - S))) && (q 1 && (q 2 && (q 3 && (q 4 && q 5)))))))))))))
theorem check_all : (List.range 80).all (fun i => (List.range 49).all fun j => checkP (100 + 10 * i) (500 + 10 * j)) = true := by decide +kernel
theorem check_at {i j : Nat} (hi : i < 80) (hj : j < 49) : checkP (100 + 10 * i) (500 + 10 * j) = true := by
  have h := check_all
  rw [List.all_eq_true] at h
  have h2 := h i (by simpa using hi)
  rw [List.all_eq_true] at h2
  exact h2 j (by simpa using hj)
end Go.Proofs.Ytllmillhdmknpaa
