/- The mirrored point, and small laws for MirrorOutline. -/
import Derived.Test.YtnfdodgecbibjaaArcL
import Derived.Test.YtnfdodgecbibjaaOwn
import Derived.Test.YtnfdodgecbibjaaRes
namespace Go.Proofs.Ytnfdodgecbibjaa
open Go.RowKit
attribute [local go_sem ↓] Go.wp_at_zero Go.wp_at_succ
set_option linter.unusedVariables false

/-- The other sign. -/
def neg64 (x : Int) : Int := wrap64 (-x)
/-- From the end; with the other sign. -/
def fromEnd (n : Nat) (F : Nat → Int) (k : Nat) : Int := F (n - 1 - k)
def flipEnd (n : Nat) (F : Nat → Int) (k : Nat) : Int := neg64 (F (n - 1 - k))

set_option maxHeartbeats 400000 in
theorem mirrored_any (x y : Int) (w : World) :
    Calls Try.prog 38 #[.agg #[.int .i64 x, .int .i64 y]] w fun e w' => e = .returned (.agg #[.int .i64 (neg64 x), .int .i64 y]) ∧ Below w.heap.size w w' := by
  go_enter Try.func38, Try.ntmps38
  go_wp2
  exact bodyPost_ret (v := .agg #[.int .i64 (neg64 x), .int .i64 y]) (by simp [results, Try.results38, go_sem, neg64]) rfl ⟨rfl, by repeat (first | exact Below.refl _ _ | refine Below.alloc ?_ (by simp; try omega) _ | refine Below.setCell ?_ (by simp; try omega) _)⟩

set_option maxHeartbeats 400000 in
theorem l05Flip_any (x y : Int) (w : World) :
    Calls Try.prog 37 #[.agg #[.int .i64 x, .int .i64 y]] w fun e w' => e = .returned (.agg #[.int .i64 (neg64 x), .int .i64 y]) ∧ Below w.heap.size w w' := by
  go_enter Try.func37, Try.ntmps37
  go_wp2
  exact bodyPost_ret (v := .agg #[.int .i64 (neg64 x), .int .i64 y]) (by simp [results, Try.results37, go_sem, neg64]) rfl ⟨rfl, by repeat (first | exact Below.refl _ _ | refine Below.alloc ?_ (by simp; try omega) _ | refine Below.setCell ?_ (by simp; try omega) _)⟩

theorem gath (f : Nat → Value) (k : Nat) : (List.range ((k + 1) * 6)).map f = (List.range (k * 6)).map f ++ [f (k * 6), f (k * 6 + 1), f (k * 6 + 2), f (k * 6 + 3), f (k * 6 + 4), f (k * 6 + 5)] := by
  rw [show (k + 1) * 6 = k * 6 + 6 by omega]
  simp [List.range_succ]

theorem own_part {w : World} {base size n g c : Nat} {e : TypeId} {xs : List Value} (h : w.ownsRow base e size (.slice (some ⟨g, 0, none⟩) n c) n xs) (f : Nat → Value) (hf : ∀ i, i < n * size → xs[i]? = some (f i)) : Part w g e (c * size) (n * size) f ∧ n * size ≤ c * size := by
  rcases h.2 with ⟨h0, _⟩ | ⟨g2, cap, cur, hv, _, hh, hc, _, hs, ht⟩
  · simp at h0
  · simp only [Value.slice.injEq, Option.some.injEq, Addr.mk.injEq, and_true, true_and] at hv
    obtain ⟨rfl, rfl⟩ := hv
    have hle : n * size ≤ c * size := Nat.mul_le_mul_right _ hc
    refine ⟨⟨fun i => (cur[i]?).getD default, ⟨cur, hh, hs, fun i hi => ?_⟩, fun i hi => ?_⟩, hle⟩
    · show cur[i]? = some ((cur[i]?).getD default); rw [Array.getElem?_eq_getElem (by omega)]; rfl
    · have e := hf i hi
      rw [← ht, List.getElem?_take, if_pos hi, Array.getElem?_toList] at e
      show (cur[i]?).getD default = f i; rw [e]; rfl

theorem six_new (w : World) (a b c d e f : Value) (t : TypeId) : ∀ (j : Nat) (x : Value), [a, b, c, d, e, f][j]? = some x → (w.alloc (.cells #[a, b, c, d, e, f] t)).cell? (Addr.add ⟨w.heap.size, 0, none⟩ j) = some x := by
  intro j x hj
  match j, hj with
  | 0, hj => simp at hj; subst hj; simp [Addr.add]
  | 1, hj => simp at hj; subst hj; simp [Addr.add]
  | 2, hj => simp at hj; subst hj; simp [Addr.add]
  | 3, hj => simp at hj; subst hj; simp [Addr.add]
  | 4, hj => simp at hj; subst hj; simp [Addr.add]
  | 5, hj => simp at hj; subst hj; simp [Addr.add]

theorem arc_keep {W w w' : World} {b : Nat} {v0 v1 v2 v3 v4 v5 : Value} (hb : b < W.heap.size) (h : Below W.heap.size W w ∧ w.cell? ⟨b, 0, none⟩ = some v0 ∧ w.cell? ⟨b, 1, none⟩ = some v1 ∧ w.cell? ⟨b, 2, none⟩ = some v2 ∧ w.cell? ⟨b, 3, none⟩ = some v3 ∧ w.cell? ⟨b, 4, none⟩ = some v4 ∧ w.cell? ⟨b, 5, none⟩ = some v5) (h2 : Below w.heap.size w w') : Below W.heap.size W w' ∧ w'.cell? ⟨b, 0, none⟩ = some v0 ∧ w'.cell? ⟨b, 1, none⟩ = some v1 ∧ w'.cell? ⟨b, 2, none⟩ = some v2 ∧ w'.cell? ⟨b, 3, none⟩ = some v3 ∧ w'.cell? ⟨b, 4, none⟩ = some v4 ∧ w'.cell? ⟨b, 5, none⟩ = some v5 := by
  obtain ⟨h0, c0, c1, c2, c3, c4, c5⟩ := h
  have hl := Nat.lt_of_lt_of_le hb h0.size
  exact ⟨h0.trans (h2.mono h0.size), (bcell h2 _ _ hl).trans c0, (bcell h2 _ _ hl).trans c1, (bcell h2 _ _ hl).trans c2, (bcell h2 _ _ hl).trans c3, (bcell h2 _ _ hl).trans c4, (bcell h2 _ _ hl).trans c5⟩
end Go.Proofs.Ytnfdodgecbibjaa
