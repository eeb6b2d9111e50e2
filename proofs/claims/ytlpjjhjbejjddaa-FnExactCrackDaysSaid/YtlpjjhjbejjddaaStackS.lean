/- A Stack that came in by value: opened. -/
import Derived.Test.YtlpjjhjbejjddaaOpenX
namespace Go.Proofs.Ytlpjjhjbejjddaa
open Go.ChangeShapes Go.WideShapes Go.ChangeAt Go.RowKit Go.Deep
/-- What is known of a Stack that came in. -/
def IsStack (x0 : ByteArray) (x1 : Int) (x2 : Int) (x3 : Int) : Prop := (x0.size ≤ maxLen) ∧ ((Lit.int .i64 x1).wf = true ∧ (Lit.int .i64 x2).wf = true ∧ (Lit.int .i64 x3).wf = true)

set_option maxRecDepth 100000 in
theorem isStack_of {H : Type} {enc : TypeId × Value → H} {w : World} {base : Nat} {spare : Nat → Bool} {held : Bool} {r : Reach} {b0 : Nat} {v : Value} {d : DataW H} {p : List MemPlace}
    (hv : Value.okWide Try.prog w r b0 34 v) (h : DataW.Trod enc Try.prog w base spare held 34 v d p) : ∃ (x0 : ByteArray) (x1 : Int) (x2 : Int) (x3 : Int), v = .agg #[.string x0, .int .i64 x1, .int .i64 x2, .int .i64 x3] ∧ IsStack x0 x1 x2 x3 := by
  obtain ⟨cs, rfl, hl, hf⟩ := agg_of Try.underlying34 (by kernel_rfl) (by kernel_rfl) hv h
  have hl0 : cs.length = 4 := hl
  clear hl
  obtain ⟨u0, t0, rfl, hl1⟩ := len_cons hl0
  obtain ⟨u1, t1, rfl, hl2⟩ := len_cons hl1
  obtain ⟨u2, t2, rfl, hl3⟩ := len_cons hl2
  obtain ⟨u3, t3, rfl, hl4⟩ := len_cons hl3
  obtain rfl : t3 = [] := List.eq_nil_of_length_eq_zero hl4
  · skip
    obtain ⟨q0, hq0, hy0⟩ := hf 0 _ rfl
    obtain rfl : q0 = u0 := by simpa using hq0.symm
    obtain ⟨x0, rfl, w0⟩ := string_is Try.underlying9 hy0
    obtain ⟨q1, hq1, hy1⟩ := hf 1 _ rfl
    obtain rfl : q1 = u1 := by simpa using hq1.symm
    obtain ⟨x1, rfl, w1⟩ := int_is Try.underlying2 hy1
    obtain ⟨q2, hq2, hy2⟩ := hf 2 _ rfl
    obtain rfl : q2 = u2 := by simpa using hq2.symm
    obtain ⟨x2, rfl, w2⟩ := int_is Try.underlying2 hy2
    obtain ⟨q3, hq3, hy3⟩ := hf 3 _ rfl
    obtain rfl : q3 = u3 := by simpa using hq3.symm
    obtain ⟨x3, rfl, w3⟩ := int_is Try.underlying2 hy3
    exact ⟨x0, x1, x2, x3, rfl, w0, ⟨w1, w2, w3⟩⟩
end Go.Proofs.Ytlpjjhjbejjddaa
