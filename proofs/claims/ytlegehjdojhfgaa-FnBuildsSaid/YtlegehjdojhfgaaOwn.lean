/- Small laws on a slice that a call gathers by append: it stays what it is behind calls that leave the old blocks alone. No statement of the program is proved here. -/
import Derived.Test.YtlegehjdojhfgaaLib
import Derived.Laws.OwnMore
namespace Go.Proofs.Ytlegehjdojhfgaa
open Go.RowKit
section
variable {w w' : World} {base size n : Nat} {e : TypeId} {v : Value} {xs : List Value}
theorem own_below (h : w.ownsRow base e size v n xs) (hb : Below w.heap.size w w') : w'.ownsRow base e size v n xs :=
  h.kept (row := none) ⟨hb.os, hb.tape, hb.output, hb.size, fun k hk _ => hb.block k hk⟩ (by cases v.ownBlock <;> simp)
theorem own_shape (h : w.ownsRow base e size v n xs) : ∃ ao cap, v = .slice ao n cap := by
  rcases h.2 with ⟨rfl, rfl⟩ | ⟨g, cap, cur, rfl, _⟩
  · exact ⟨_, _, rfl⟩
  · exact ⟨_, _, rfl⟩
theorem below_grown {B : Nat} {a w1 w2 : World} {o : Obj} (h : Below B a w1) (hown : w1.ownsRow B e size v n xs) (hg : (w1.alloc o).grownBy w2 v.ownBlock) (hB : B ≤ a.heap.size := by exact Nat.le_refl _) : Below B a w2 :=
  (h.alloc (Nat.le_trans hB h.size) o).grown hg (by have := Nat.le_trans hB h.size; simp; omega) (fun k hk => (hown.lt k hk).1)
end
theorem one_new (w : World) (u : Value) (t : TypeId) : ∀ (j : Nat) (x : Value), [u][j]? = some x → (w.alloc (.cells #[u] t)).cell? (Addr.add ⟨w.heap.size, 0, none⟩ j) = some x := by
  intro j x hj
  match j, hj with
  | 0, hj => simp at hj; subst hj; simp [Addr.add]
end Go.Proofs.Ytlegehjdojhfgaa
