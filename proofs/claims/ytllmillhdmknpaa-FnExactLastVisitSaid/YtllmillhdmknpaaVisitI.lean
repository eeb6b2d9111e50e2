/- A slice of the type Visit that came in: opened, measured, copied. -/
import Derived.Test.YtllmillhdmknpaaVisit
import Derived.Test.YtllmillhdmknpaaOpen
namespace Go.Proofs.Ytllmillhdmknpaa
open Go.ChangeShapes Go.WideShapes Go.ChangeAt Go.RowKit Go.Deep
/-- A slice of Visits that came in: it is empty, or its cells can be read. -/
def InVisit (w : World) (a : Option Addr) (n : Nat) (F0 : Nat → Int) (F1 : Nat → ByteArray) (F2 : Nat → Int) (F3 : Nat → Int) : Prop := (n = 0 ∨ ∃ b off, a = some ⟨b, off, none⟩ ∧ b < w.heap.size ∧ n ≤ maxLen ∧ RdVisit w b off n F0 F1 F2 F3) ∧ ((∀ i, i < n → (F1 i).size ≤ maxLen)) ∧ ((∀ i, i < n → (Lit.int .i64 (F0 i)).wf = true) ∧ (∀ i, i < n → (Lit.int .i64 (F2 i)).wf = true) ∧ (∀ i, i < n → (Lit.int .i64 (F3 i)).wf = true))

theorem InVisit.below {w w' : World} {a : Option Addr} {n : Nat} {F0 : Nat → Int} {F1 : Nat → ByteArray} {F2 : Nat → Int} {F3 : Nat → Int} (h : InVisit w a n F0 F1 F2 F3) (hb : Below w.heap.size w w') : InVisit w' a n F0 F1 F2 F3 := by
  obtain ⟨h1, h2⟩ := h
  refine ⟨?_, h2⟩
  rcases h1 with h1 | ⟨b, off, rfl, hbl, hn, hr⟩
  · exact .inl h1
  · refine .inr ⟨b, off, rfl, Nat.lt_of_lt_of_le hbl hb.size, hn, fun i hi => ?_⟩
    have hc := bcell hb
    obtain ⟨c0, c1, c2, c3⟩ := hr i hi
    exact ⟨(hc _ _ hbl).trans c0, (hc _ _ hbl).trans c1, (hc _ _ hbl).trans c2, (hc _ _ hbl).trans c3⟩

theorem szVisitS_in (a : Option Addr) (n c : Nat) (F0 : Nat → Int) (F1 : Nat → ByteArray) (F2 : Nat → Int) (F3 : Nat → Int) (w : World) (h : InVisit w a n F0 F1 F2 F3) :
    Calls Try.prog 49 #[.slice a n c, .int .i64 1048576] w (SzPost n w) := by
  obtain ⟨h1, hS1, _⟩ := h
  rcases h1 with rfl | ⟨b, off, rfl, hbl, hn, hr⟩
  · exact szVisitS_nil a c w
  · exact szVisitS_any b off n c F0 F1 F2 F3 w hbl hn hr hS1

theorem toVisitS_in (a : Option Addr) (n c : Nat) (F0 : Nat → Int) (F1 : Nat → ByteArray) (F2 : Nat → Int) (F3 : Nat → Int) (w : World) (h : InVisit w a n F0 F1 F2 F3) (hm : n ≤ 1048576) :
    Calls Try.prog 51 #[.slice a n c] w (ToVisitPost n F0 F1 F2 F3 w) := by
  obtain ⟨h1, _⟩ := h
  rcases h1 with rfl | ⟨b, off, rfl, hbl, hn, hr⟩
  · exact toVisitS_nil a c F0 F1 F2 F3 w
  · exact toVisitS_any b off n c F0 F1 F2 F3 w hbl hm hr

theorem inVisit_of {H : Type} {enc : TypeId × Value → H} {w : World} {base : Nat} {spare : Nat → Bool} {held : Bool} {fuel n c : Nat} {a : Option Addr} {x : DataW H × List MemPlace}
    (h : DataW.trod enc Try.prog w base spare held fuel 74 [.slice a n c] = some x) : ∃ F0 F1 F2 F3, InVisit w a n F0 F1 F2 F3 := by
  rcases rows_of (fs := _) Try.underlying74 (Try.underlying147) (by kernel_rfl) (by kernel_rfl) (by decide) h with h0 | ⟨b, off, rfl, hbl, hn, hr⟩
  · subst h0
    exact ⟨fun _ => 0, fun _ => ByteArray.empty, fun _ => 0, fun _ => 0, .inl rfl, fun i hi => absurd hi (by omega), ⟨fun i hi => absurd hi (by omega), fun i hi => absurd hi (by omega), fun i hi => absurd hi (by omega)⟩⟩
  · have key : ∀ i, i < n → (w.cell? ⟨b, off + i * 4, none⟩ = some (.int .i64 (intAt (w.cell? ⟨b, off + i * 4, none⟩))) ∧ (Lit.int .i64 (intAt (w.cell? ⟨b, off + i * 4, none⟩))).wf = true) ∧ (w.cell? ⟨b, off + i * 4 + 1, none⟩ = some (.string (strAt (w.cell? ⟨b, off + i * 4 + 1, none⟩))) ∧ (strAt (w.cell? ⟨b, off + i * 4 + 1, none⟩)).size ≤ maxLen) ∧ (w.cell? ⟨b, off + i * 4 + 2, none⟩ = some (.int .i64 (intAt (w.cell? ⟨b, off + i * 4 + 2, none⟩))) ∧ (Lit.int .i64 (intAt (w.cell? ⟨b, off + i * 4 + 2, none⟩))).wf = true) ∧ (w.cell? ⟨b, off + i * 4 + 3, none⟩ = some (.int .i64 (intAt (w.cell? ⟨b, off + i * 4 + 3, none⟩))) ∧ (Lit.int .i64 (intAt (w.cell? ⟨b, off + i * 4 + 3, none⟩))).wf = true) := by
      intro i hi
      obtain ⟨v0, hv0, hy0⟩ := hr i hi 0 _ rfl
      obtain ⟨v1, hv1, hy1⟩ := hr i hi 1 _ rfl
      obtain ⟨v2, hv2, hy2⟩ := hr i hi 2 _ rfl
      obtain ⟨v3, hv3, hy3⟩ := hr i hi 3 _ rfl
      exact ⟨int_of Try.underlying2 hv0 hy0, string_of Try.underlying9 hv1 hy1, int_of Try.underlying2 hv2 hy2, int_of Try.underlying2 hv3 hy3⟩
    refine ⟨fun i => intAt (w.cell? ⟨b, off + i * 4, none⟩), fun i => strAt (w.cell? ⟨b, off + i * 4 + 1, none⟩), fun i => intAt (w.cell? ⟨b, off + i * 4 + 2, none⟩), fun i => intAt (w.cell? ⟨b, off + i * 4 + 3, none⟩), .inr ⟨b, off, rfl, hbl, hn, fun i hi => ?_⟩, fun i hi => (key i hi).2.1.2, ⟨fun i hi => (key i hi).1.2, fun i hi => (key i hi).2.2.1.2, fun i hi => (key i hi).2.2.2.2⟩⟩
    obtain ⟨q0, q1, q2, q3⟩ := key i hi
    exact ⟨q0.1, q1.1, q2.1, q3.1⟩
end Go.Proofs.Ytllmillhdmknpaa
