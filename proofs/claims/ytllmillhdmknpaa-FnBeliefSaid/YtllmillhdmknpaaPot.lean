/- The contracts of the helpers of the type Pot: the measure of size, the copy, the comparison of a copy with a copy. -/
import Derived.Test.YtllmillhdmknpaaSmall
import Derived.Deep.RegionHeld3
import Derived.Deep.DrawnRows
namespace Go.Proofs.Ytllmillhdmknpaa
open Go.RowKit
attribute [local go_sem ↓] Go.wp_at_zero Go.wp_at_succ
/-- The cells of a row of Pots. -/
def rowPot (F0 : Nat → ByteArray) (F1 : Nat → Int) (F2 : Nat → Int) (F3 : Nat → Int) (F4 : Nat → Int) (i j : Nat) : Value := match j with | 0 => .string (F0 i) | 1 => .int .i64 (F1 i) | 2 => .int .i64 (F2 i) | 3 => .int .i64 (F3 i) | _ => .int .i64 (F4 i)

/-- A slice of Pots that can be read. -/
def RdPot (w : World) (b off n : Nat) (F0 : Nat → ByteArray) (F1 : Nat → Int) (F2 : Nat → Int) (F3 : Nat → Int) (F4 : Nat → Int) : Prop := ∀ i, i < n → w.cell? ⟨b, off + i * 5, none⟩ = some (.string (F0 i)) ∧ w.cell? ⟨b, off + i * 5 + 1, none⟩ = some (.int .i64 (F1 i)) ∧ w.cell? ⟨b, off + i * 5 + 2, none⟩ = some (.int .i64 (F2 i)) ∧ w.cell? ⟨b, off + i * 5 + 3, none⟩ = some (.int .i64 (F3 i)) ∧ w.cell? ⟨b, off + i * 5 + 4, none⟩ = some (.int .i64 (F4 i))

theorem RdPot.of_row {w : World} {g n : Nat} {t : TypeId} {F0 : Nat → ByteArray} {F1 : Nat → Int} {F2 : Nat → Int} {F3 : Nat → Int} {F4 : Nat → Int} (h : w.rowIs g t (n * 5) (flat 5 (rowPot F0 F1 F2 F3 F4))) : RdPot w g 0 n F0 F1 F2 F3 F4 := by
  intro i hi
  refine ⟨?_, ?_, ?_, ?_, ?_⟩
  · have e := h.cell (i := i * 5) (by omega); rw [flat_at0 _ _ _ (by omega)] at e; simpa [rowPot] using e
  · have e := h.cell (i := i * 5 + 1) (by omega); rw [flat_at _ _ _ _ (by omega)] at e; simpa [rowPot] using e
  · have e := h.cell (i := i * 5 + 2) (by omega); rw [flat_at _ _ _ _ (by omega)] at e; simpa [rowPot] using e
  · have e := h.cell (i := i * 5 + 3) (by omega); rw [flat_at _ _ _ _ (by omega)] at e; simpa [rowPot] using e
  · have e := h.cell (i := i * 5 + 4) (by omega); rw [flat_at _ _ _ _ (by omega)] at e; simpa [rowPot] using e

set_option maxHeartbeats 400000 in
theorem szPot_yes (x0 : ByteArray) (x1 : Int) (x2 : Int) (x3 : Int) (x4 : Int) (left : Int) (w : World) (h : (x0.size : Int) ≤ left) (hl : left ≤ 1048576) :
    Calls Try.prog 14 #[.agg #[.string x0, .int .i64 x1, .int .i64 x2, .int .i64 x3, .int .i64 x4], .int .i64 left] w fun e w' => e = .returned (.int .i64 (left - x0.size)) ∧ w.alloc (.cells #[.string x0, .int .i64 x1, .int .i64 x2, .int .i64 x3, .int .i64 x4] 23) = w' := by
  go_enter Try.func14, Try.ntmps14
  go_wp2
  go_ret
  exact ⟨rfl, rfl⟩

set_option maxHeartbeats 400000 in
theorem szPot_no (x0 : ByteArray) (x1 : Int) (x2 : Int) (x3 : Int) (x4 : Int) (left : Int) (w : World) (hs0 : x0.size ≤ maxLen) (h : left < (x0.size : Int)) (hl : left ≤ 1048576) (h0 : 0 ≤ left) :
    Calls Try.prog 14 #[.agg #[.string x0, .int .i64 x1, .int .i64 x2, .int .i64 x3, .int .i64 x4], .int .i64 left] w fun e w' => e = .returned (.int .i64 (-1)) ∧ w.alloc (.cells #[.string x0, .int .i64 x1, .int .i64 x2, .int .i64 x3, .int .i64 x4] 23) = w' := by
  unfold maxLen at hs0
  go_enter Try.func14, Try.ntmps14
  go_wp2
  all_goals (go_ret; exact ⟨rfl, rfl⟩)

set_option maxHeartbeats 400000 in
theorem toPot_any (x0 : ByteArray) (x1 : Int) (x2 : Int) (x3 : Int) (x4 : Int) (w : World) :
    Calls Try.prog 16 #[.agg #[.string x0, .int .i64 x1, .int .i64 x2, .int .i64 x3, .int .i64 x4]] w fun e w' => e = .returned (.agg #[.string x0, .int .i64 x1, .int .i64 x2, .int .i64 x3, .int .i64 x4]) ∧ ((w.alloc (.cells #[.string x0, .int .i64 x1, .int .i64 x2, .int .i64 x3, .int .i64 x4] 23)).alloc (.cells #[.string x0, .int .i64 x1, .int .i64 x2, .int .i64 x3, .int .i64 x4] 27)).alloc (.cells #[.string x0, .int .i64 x1, .int .i64 x2, .int .i64 x3, .int .i64 x4] 27) = w' := by
  go_enter Try.func16, Try.ntmps16
  go_wp2
  exact bodyPost_ret (v := .agg #[.string x0, .int .i64 x1, .int .i64 x2, .int .i64 x3, .int .i64 x4]) (by simp [results, Try.results16, go_sem]) rfl ⟨rfl, rfl⟩
end Go.Proofs.Ytllmillhdmknpaa
