/- A slice of the type Setting that came in: opened, measured, copied. -/
import Derived.Test.YtllmillhdmknpaaSetting
import Derived.Test.YtllmillhdmknpaaOpen
namespace Go.Proofs.Ytllmillhdmknpaa
open Go.ChangeShapes Go.WideShapes Go.ChangeAt Go.RowKit Go.Deep
/-- A slice of Settings that came in: it is empty, or its cells can be read. -/
def InSetting (w : World) (a : Option Addr) (n : Nat) (F0 : Nat → ByteArray) (F1 : Nat → Int) : Prop := (n = 0 ∨ ∃ b off, a = some ⟨b, off, none⟩ ∧ b < w.heap.size ∧ n ≤ maxLen ∧ RdSetting w b off n F0 F1) ∧ ((∀ i, i < n → (F0 i).size ≤ maxLen)) ∧ ((∀ i, i < n → (Lit.int .i64 (F1 i)).wf = true))

theorem InSetting.below {w w' : World} {a : Option Addr} {n : Nat} {F0 : Nat → ByteArray} {F1 : Nat → Int} (h : InSetting w a n F0 F1) (hb : Below w.heap.size w w') : InSetting w' a n F0 F1 := by
  obtain ⟨h1, h2⟩ := h
  refine ⟨?_, h2⟩
  rcases h1 with h1 | ⟨b, off, rfl, hbl, hn, hr⟩
  · exact .inl h1
  · refine .inr ⟨b, off, rfl, Nat.lt_of_lt_of_le hbl hb.size, hn, fun i hi => ?_⟩
    have hc := bcell hb
    obtain ⟨c0, c1⟩ := hr i hi
    exact ⟨(hc _ _ hbl).trans c0, (hc _ _ hbl).trans c1⟩

theorem szSettingS_in (a : Option Addr) (n c : Nat) (F0 : Nat → ByteArray) (F1 : Nat → Int) (w : World) (h : InSetting w a n F0 F1) :
    Calls Try.prog 149 #[.slice a n c, .int .i64 1048576] w (SzPost n w) := by
  obtain ⟨h1, hS0, _⟩ := h
  rcases h1 with rfl | ⟨b, off, rfl, hbl, hn, hr⟩
  · exact szSettingS_nil a c w
  · exact szSettingS_any b off n c F0 F1 w hbl hn hr hS0

theorem toSettingS_in (a : Option Addr) (n c : Nat) (F0 : Nat → ByteArray) (F1 : Nat → Int) (w : World) (h : InSetting w a n F0 F1) (hm : n ≤ 1048576) :
    Calls Try.prog 150 #[.slice a n c] w (ToSettingPost n F0 F1 w) := by
  obtain ⟨h1, _⟩ := h
  rcases h1 with rfl | ⟨b, off, rfl, hbl, hn, hr⟩
  · exact toSettingS_nil a c F0 F1 w
  · exact toSettingS_any b off n c F0 F1 w hbl hm hr

theorem inSetting_of {H : Type} {enc : TypeId × Value → H} {w : World} {base : Nat} {spare : Nat → Bool} {held : Bool} {fuel n c : Nat} {a : Option Addr} {x : DataW H × List MemPlace}
    (h : DataW.trod enc Try.prog w base spare held fuel 133 [.slice a n c] = some x) : ∃ F0 F1, InSetting w a n F0 F1 := by
  rcases rows_of (fs := _) Try.underlying133 (Try.underlying196) (by kernel_rfl) (by kernel_rfl) (by decide) h with h0 | ⟨b, off, rfl, hbl, hn, hr⟩
  · subst h0
    exact ⟨fun _ => ByteArray.empty, fun _ => 0, .inl rfl, fun i hi => absurd hi (by omega), fun i hi => absurd hi (by omega)⟩
  · have key : ∀ i, i < n → (w.cell? ⟨b, off + i * 2, none⟩ = some (.string (strAt (w.cell? ⟨b, off + i * 2, none⟩))) ∧ (strAt (w.cell? ⟨b, off + i * 2, none⟩)).size ≤ maxLen) ∧ (w.cell? ⟨b, off + i * 2 + 1, none⟩ = some (.int .i64 (intAt (w.cell? ⟨b, off + i * 2 + 1, none⟩))) ∧ (Lit.int .i64 (intAt (w.cell? ⟨b, off + i * 2 + 1, none⟩))).wf = true) := by
      intro i hi
      obtain ⟨v0, hv0, hy0⟩ := hr i hi 0 _ rfl
      obtain ⟨v1, hv1, hy1⟩ := hr i hi 1 _ rfl
      exact ⟨string_of Try.underlying9 hv0 hy0, int_of Try.underlying2 hv1 hy1⟩
    refine ⟨fun i => strAt (w.cell? ⟨b, off + i * 2, none⟩), fun i => intAt (w.cell? ⟨b, off + i * 2 + 1, none⟩), .inr ⟨b, off, rfl, hbl, hn, fun i hi => ?_⟩, fun i hi => (key i hi).1.2, fun i hi => (key i hi).2.2⟩
    obtain ⟨q0, q1⟩ := key i hi
    exact ⟨q0.1, q1.1⟩
end Go.Proofs.Ytllmillhdmknpaa
