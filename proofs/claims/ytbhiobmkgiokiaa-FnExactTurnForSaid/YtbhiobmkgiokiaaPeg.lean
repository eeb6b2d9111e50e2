/- The contracts of the helpers of the type Peg: the measure of size, the copy, the comparison of a copy with a copy. -/
import Derived.Test.YtbhiobmkgiokiaaSmall
import Derived.Deep.RegionHeld3
import Derived.Deep.DrawnRows
namespace Go.Proofs.Ytbhiobmkgiokiaa
open Go.RowKit
attribute [local go_sem ↓] Go.wp_at_zero Go.wp_at_succ
/-- The cells of a row of Pegs. -/
def rowPeg (F0 : Nat → ByteArray) (F1 : Nat → Int) (F2 : Nat → Int) (F3 : Nat → Int) (i j : Nat) : Value := match j with | 0 => .string (F0 i) | 1 => .int .i64 (F1 i) | 2 => .int .i64 (F2 i) | _ => .int .i64 (F3 i)

/-- A slice of Pegs that can be read. -/
def RdPeg (w : World) (b off n : Nat) (F0 : Nat → ByteArray) (F1 : Nat → Int) (F2 : Nat → Int) (F3 : Nat → Int) : Prop := ∀ i, i < n → w.cell? ⟨b, off + i * 4, none⟩ = some (.string (F0 i)) ∧ w.cell? ⟨b, off + i * 4 + 1, none⟩ = some (.int .i64 (F1 i)) ∧ w.cell? ⟨b, off + i * 4 + 2, none⟩ = some (.int .i64 (F2 i)) ∧ w.cell? ⟨b, off + i * 4 + 3, none⟩ = some (.int .i64 (F3 i))

theorem RdPeg.of_row {w : World} {g n : Nat} {t : TypeId} {F0 : Nat → ByteArray} {F1 : Nat → Int} {F2 : Nat → Int} {F3 : Nat → Int} (h : w.rowIs g t (n * 4) (flat 4 (rowPeg F0 F1 F2 F3))) : RdPeg w g 0 n F0 F1 F2 F3 := by
  intro i hi
  refine ⟨?_, ?_, ?_, ?_⟩
  · have e := h.cell (i := i * 4) (by omega); rw [flat_at0 _ _ _ (by omega)] at e; simpa [rowPeg] using e
  · have e := h.cell (i := i * 4 + 1) (by omega); rw [flat_at _ _ _ _ (by omega)] at e; simpa [rowPeg] using e
  · have e := h.cell (i := i * 4 + 2) (by omega); rw [flat_at _ _ _ _ (by omega)] at e; simpa [rowPeg] using e
  · have e := h.cell (i := i * 4 + 3) (by omega); rw [flat_at _ _ _ _ (by omega)] at e; simpa [rowPeg] using e

set_option maxHeartbeats 400000 in
theorem szPeg_yes (x0 : ByteArray) (x1 : Int) (x2 : Int) (x3 : Int) (left : Int) (w : World) (h : (x0.size : Int) ≤ left) (hl : left ≤ 1048576) :
    Calls Try.prog 27 #[.agg #[.string x0, .int .i64 x1, .int .i64 x2, .int .i64 x3], .int .i64 left] w fun e w' => e = .returned (.int .i64 (left - x0.size)) ∧ w.alloc (.cells #[.string x0, .int .i64 x1, .int .i64 x2, .int .i64 x3] 42) = w' := by
  go_enter Try.func27, Try.ntmps27
  go_wp2
  go_ret
  exact ⟨rfl, rfl⟩

set_option maxHeartbeats 400000 in
theorem szPeg_no (x0 : ByteArray) (x1 : Int) (x2 : Int) (x3 : Int) (left : Int) (w : World) (hs0 : x0.size ≤ maxLen) (h : left < (x0.size : Int)) (hl : left ≤ 1048576) (h0 : 0 ≤ left) :
    Calls Try.prog 27 #[.agg #[.string x0, .int .i64 x1, .int .i64 x2, .int .i64 x3], .int .i64 left] w fun e w' => e = .returned (.int .i64 (-1)) ∧ w.alloc (.cells #[.string x0, .int .i64 x1, .int .i64 x2, .int .i64 x3] 42) = w' := by
  unfold maxLen at hs0
  go_enter Try.func27, Try.ntmps27
  go_wp2
  all_goals (go_ret; exact ⟨rfl, rfl⟩)

set_option maxHeartbeats 400000 in
theorem toPeg_any (x0 : ByteArray) (x1 : Int) (x2 : Int) (x3 : Int) (w : World) :
    Calls Try.prog 29 #[.agg #[.string x0, .int .i64 x1, .int .i64 x2, .int .i64 x3]] w fun e w' => e = .returned (.agg #[.string x0, .int .i64 x1, .int .i64 x2, .int .i64 x3]) ∧ ((w.alloc (.cells #[.string x0, .int .i64 x1, .int .i64 x2, .int .i64 x3] 42)).alloc (.cells #[.string x0, .int .i64 x1, .int .i64 x2, .int .i64 x3] 45)).alloc (.cells #[.string x0, .int .i64 x1, .int .i64 x2, .int .i64 x3] 45) = w' := by
  go_enter Try.func29, Try.ntmps29
  go_wp2
  exact bodyPost_ret (v := .agg #[.string x0, .int .i64 x1, .int .i64 x2, .int .i64 x3]) (by simp [results, Try.results29, go_sem]) rfl ⟨rfl, rfl⟩
end Go.Proofs.Ytbhiobmkgiokiaa
