/- A Pot that came in by value: opened. -/
import Derived.Test.YtllmillhdmknpaaOpenX
namespace Go.Proofs.Ytllmillhdmknpaa
open Go.ChangeShapes Go.WideShapes Go.ChangeAt Go.RowKit Go.Deep
/-- What is known of a Pot that came in. -/
def IsPot (x0 : ByteArray) (x1 : Int) (x2 : Int) (x3 : Int) (x4 : Int) : Prop := (x0.size ≤ maxLen) ∧ ((Lit.int .i64 x1).wf = true ∧ (Lit.int .i64 x2).wf = true ∧ (Lit.int .i64 x3).wf = true ∧ (Lit.int .i64 x4).wf = true)

set_option maxRecDepth 100000 in
theorem isPot_of {H : Type} {enc : TypeId × Value → H} {w : World} {base : Nat} {spare : Nat → Bool} {held : Bool} {r : Reach} {b0 : Nat} {v : Value} {d : DataW H} {p : List MemPlace}
    (hv : Value.okWide Try.prog w r b0 23 v) (h : DataW.Trod enc Try.prog w base spare held 23 v d p) : ∃ (x0 : ByteArray) (x1 : Int) (x2 : Int) (x3 : Int) (x4 : Int), v = .agg #[.string x0, .int .i64 x1, .int .i64 x2, .int .i64 x3, .int .i64 x4] ∧ IsPot x0 x1 x2 x3 x4 := by
  obtain ⟨cs, rfl, hl, hf⟩ := agg_of Try.underlying23 (by kernel_rfl) (by kernel_rfl) hv h
  have hl0 : cs.length = 5 := hl
  clear hl
  obtain ⟨u0, t0, rfl, hl1⟩ := len_cons hl0
  obtain ⟨u1, t1, rfl, hl2⟩ := len_cons hl1
  obtain ⟨u2, t2, rfl, hl3⟩ := len_cons hl2
  obtain ⟨u3, t3, rfl, hl4⟩ := len_cons hl3
  obtain ⟨u4, t4, rfl, hl5⟩ := len_cons hl4
  obtain rfl : t4 = [] := List.eq_nil_of_length_eq_zero hl5
  · skip
    obtain ⟨q0, hq0, hy0⟩ := hf 0 _ rfl
    obtain rfl : q0 = u0 := by simpa using hq0.symm
    obtain ⟨x0, rfl, w0⟩ := string_is Try.underlying9 hy0
    obtain ⟨q1, hq1, hy1⟩ := hf 1 _ rfl
    obtain rfl : q1 = u1 := by simpa using hq1.symm
    obtain ⟨x1, rfl, w1⟩ := int_is Try.underlying2 hy1
    obtain ⟨q2, hq2, hy2⟩ := hf 2 _ rfl
    obtain rfl : q2 = u2 := by simpa using hq2.symm
    obtain ⟨x2, rfl, w2⟩ := int_is Try.underlying2 hy2
    obtain ⟨q3, hq3, hy3⟩ := hf 3 _ rfl
    obtain rfl : q3 = u3 := by simpa using hq3.symm
    obtain ⟨x3, rfl, w3⟩ := int_is Try.underlying2 hy3
    obtain ⟨q4, hq4, hy4⟩ := hf 4 _ rfl
    obtain rfl : q4 = u4 := by simpa using hq4.symm
    obtain ⟨x4, rfl, w4⟩ := int_is Try.underlying2 hy4
    exact ⟨x0, x1, x2, x3, x4, rfl, w0, ⟨w1, w2, w3, w4⟩⟩
end Go.Proofs.Ytllmillhdmknpaa
