/- Rows of 64-bit integers: the words alone. -/
import Derived.Test.YtabdpfagfempjaaLib
namespace Go.Proofs.Ytabdpfagfempjaa
open Go.RowKit
/-- A row of integers. -/
def rowInts (z : Nat → Int) (j : Nat) : Value := .int .i64 (z j)
def RdInts (w : World) (b off n : Nat) (z : Nat → Int) : Prop := ∀ i, i < n → w.cell? ⟨b, off + i, none⟩ = some (.int .i64 (z i))
theorem RdInts.of_row {w : World} {g n : Nat} {t : TypeId} {z : Nat → Int} (h : w.rowIs g t n (rowInts z)) : RdInts w g 0 n z := by
  intro i hi
  have e := h.cell hi
  simpa [rowInts] using e
end Go.Proofs.Ytabdpfagfempjaa
