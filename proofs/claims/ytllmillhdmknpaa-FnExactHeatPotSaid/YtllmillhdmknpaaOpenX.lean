/- A struct that comes in by value: its fields, each of one cell. -/
import Derived.Test.YtllmillhdmknpaaOpen
namespace Go.Proofs.Ytllmillhdmknpaa
open Go.ChangeShapes Go.WideShapes Go.ChangeAt Go.RowKit Go.Deep
theorem len_cons {α : Type} {l : List α} {n : Nat} (h : l.length = n + 1) : ∃ a t, l = a :: t ∧ t.length = n := by
  cases l with
  | nil => simp at h
  | cons a t => exact ⟨a, t, rfl, by simpa using h⟩
section
variable {H : Type} {enc : TypeId × Value → H} {P : Program} {w : World} {base : Nat} {spare : Nat → Bool} {held : Bool}
theorem agg_of {r : Reach} {b0 : Nat} {t : TypeId} {fs : Array Field} {v : Value} {d : DataW H} {p : List MemPlace} (hs : P.underlying t = some (.struct fs)) (hone : oneCellFields P fs = true) (hC : P.cellsOf t = fs.size)
    (hv : Value.okWide P w r b0 t v) (h : DataW.Trod enc P w base spare held t v d p) :
    ∃ cs : List Value, v = .agg cs.toArray ∧ cs.length = fs.size ∧ ∀ (j : Nat) (f : Field), fs[j]? = some f → ∃ u, cs[j]? = some u ∧ ∃ k y, DataW.trod enc P w base spare held k f.type [u] = some y := by
  obtain ⟨cs, rfl, hsz⟩ := okWide_struct hs hv
  obtain ⟨l⟩ := cs
  have hl : l.length = fs.size := by simpa using hsz.trans hC
  obtain ⟨fuel, hf⟩ := h
  obtain ⟨xs, n, _, hx, _, hlen, hg⟩ := DataW.trod_struct hs hf
  refine ⟨l, rfl, hl, fun j f hj => ?_⟩
  have hjl : j < fs.size := (Array.getElem?_eq_some_iff.1 hj).1
  obtain ⟨o1, k1⟩ := hone_of hone j f hj
  have h1 := hg j f hj
  rw [o1, k1] at h1
  have hcut : ((Value.cells (.agg l.toArray)).toList.drop j).take 1 = [l[j]'(by omega)] := by
    have e : (Value.cells (.agg l.toArray)).toList = l := by simp [Value.cells]
    rw [e, List.drop_eq_getElem_cons (by omega)]
    rfl
  have hxj : xs[j]? = some (xs[j]'(by omega)) := List.getElem?_eq_getElem (by omega)
  refine ⟨l[j]'(by omega), List.getElem?_eq_getElem (by omega), n, xs[j]'(by omega), ?_⟩
  rw [← hxj, ← h1, ← hcut]
theorem string_is {t : TypeId} {v : Value} (ht : P.underlying t = some .string) (h : ∃ k y, DataW.trod enc P w base spare held k t [v] = some y) : ∃ s : ByteArray, v = .string s ∧ s.size ≤ maxLen := by
  obtain ⟨k, y, hy⟩ := h
  obtain ⟨s, hs, _, hle⟩ := DataW.trod_string ht hy
  simp at hs
  exact ⟨s, hs, hle⟩
theorem int_is {t : TypeId} {k : IntKind} {v : Value} (ht : P.underlying t = some (.int k)) (h : ∃ k y, DataW.trod enc P w base spare held k t [v] = some y) : ∃ n : Int, v = .int k n ∧ (Lit.int k n).wf = true := by
  obtain ⟨k', y, hy⟩ := h
  obtain ⟨s, hs, _, hle⟩ := DataW.trod_int ht hy
  simp at hs
  exact ⟨s, hs, hle⟩
end
end Go.Proofs.Ytllmillhdmknpaa
