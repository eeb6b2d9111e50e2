/- Small laws that open arguments: a slice of structs whose fields take one cell each, and structs by value. -/
import Derived.Test.YtlegehjdojhfgaaSmall
import Derived.ProofKit
import Derived.OpenShut
import Derived.ShutString
import Derived.ChangeOld
import Derived.Below
import Derived.Deep.Slices
import Derived.Deep.Fields
import Derived.ChangeSame
namespace Go.Proofs.Ytlegehjdojhfgaa
open Go.ChangeShapes Go.WideShapes Go.ChangeAt Go.RowKit Go.Deep

theorem own : ownKnob Try.prog.godebug = none := by kernel_rfl
theorem laidOut : laidOutB Try.prog = true := by kernel_rfl

theorem lt_of_cell {w : World} {b o : Nat} {v : Value} (h : w.cell? ⟨b, o, none⟩ = some v) : b < w.heap.size := by
  rcases Nat.lt_or_ge b w.heap.size with hb | hb
  · exact hb
  · simp [World.cell?, Array.getElem?_eq_none hb] at h
/-- What a cell holds, as a string or as a number. -/
def strAt (v : Option Value) : ByteArray := match v with | some (.string s) => s | _ => ByteArray.empty
def intAt (v : Option Value) : Int := match v with | some (.int _ n) => n | _ => 0

section
variable {H : Type} {enc : TypeId × Value → H} {P : Program} {w : World} {base : Nat} {spare : Nat → Bool} {held : Bool}
/-- The rows of a slice of structs that can be read. -/
theorem rows_of {t e : TypeId} {fs : Array Field} {fuel n c : Nat} {a : Option Addr} {x : DataW H × List MemPlace} (ht : P.underlying t = some (.slice e)) (he : P.underlying e = some (.struct fs))
    (hone : oneCellFields P fs = true) (hC : P.cellsOf e = fs.size) (hm : 0 < fs.size) (h : DataW.trod enc P w base spare held fuel t [.slice a n c] = some x) :
    n = 0 ∨ ∃ b off, a = some ⟨b, off, none⟩ ∧ b < w.heap.size ∧ n ≤ maxLen ∧ ∀ i, i < n → ∀ (j : Nat) (f : Field), fs[j]? = some f → ∃ v, w.cell? ⟨b, off + i * fs.size + j, none⟩ = some v ∧ ∃ k y, DataW.trod enc P w base spare held k f.type [v] = some y := by
  rcases open_slice ht h with ⟨h0, _⟩ | ⟨ad, len, cap, m, k, D, Pl, hcs, _, hl, hcap, hmm, _, hi⟩
  · left; simp at h0; exact h0.2.1
  · simp at hcs
    obtain ⟨rfl, rfl, rfl⟩ := hcs
    by_cases hn : n = 0
    · exact .inl hn
    have key : ∀ i, i < n → ∀ (j : Nat) (f : Field), fs[j]? = some f → ∃ v, w.cell? (ad.add (i * fs.size + j)) = some v ∧ ∃ k y, DataW.trod enc P w base spare held k f.type [v] = some y := by
      intro i hin j f hj
      obtain ⟨cs', hc, ht'⟩ := hi i (by rw [hmm]; split <;> omega)
      rw [hC] at hc
      obtain ⟨ys, n', _, hy, hlen, hyl, hf⟩ := DataW.trod_struct he ht'
      obtain ⟨_, hcl, hat⟩ := World.cells?_some hc
      obtain ⟨ho, hk⟩ := hone_of hone j f hj
      have hjl : j < fs.size := (Array.getElem?_eq_some_iff.1 hj).1
      have hcell := hat j hjl
      have hv : cs'[j]? = some (cs'[j]'(by omega)) := List.getElem?_eq_getElem (by omega)
      have h1 := hf j f hj
      rw [ho, hk] at h1
      have hone' : (cs'.drop j).take 1 = [cs'[j]'(by omega)] := by
        rw [List.drop_eq_getElem_cons (by omega)]
        rfl
      rw [hone'] at h1
      have hys : ys[j]? = some (ys[j]'(by omega)) := List.getElem?_eq_getElem (by omega)
      refine ⟨_, ?_, _, _, h1.trans hys⟩
      rw [← Go.Deep.add_add, hcell, hv]
    right
    obtain ⟨b, off, spot⟩ := ad
    have hf0 : fs[0]? = some (fs[0]'hm) := Array.getElem?_eq_getElem hm
    obtain ⟨v0, hv0, _⟩ := key 0 (by omega) 0 _ hf0
    have hspot : spot = none := by simpa [Addr.add] using World.cell?_spot hv0
    subst hspot
    have hadd : ∀ q, (Addr.add ⟨b, off, none⟩ q : Addr) = ⟨b, off + q, none⟩ := by
      intro q; unfold Addr.add; split
      · rename_i h0; rw [h0]; rfl
      · rfl
    rw [hadd] at hv0
    refine ⟨b, off, rfl, lt_of_cell hv0, by omega, fun i hin j f hj => ?_⟩
    obtain ⟨v, hv, hr⟩ := key i hin j f hj
    rw [hadd, ← Nat.add_assoc] at hv
    exact ⟨v, hv, hr⟩
theorem string_of {t : TypeId} {v : Value} {r : Option Value} (ht : P.underlying t = some .string) (hr : r = some v) (h : ∃ k y, DataW.trod enc P w base spare held k t [v] = some y) : r = some (.string (strAt r)) ∧ (strAt r).size ≤ maxLen := by
  obtain ⟨k, y, hy⟩ := h
  obtain ⟨s, hs, _, hle⟩ := DataW.trod_string ht hy
  simp at hs
  subst hs hr
  exact ⟨rfl, hle⟩
theorem int_of {t : TypeId} {k : IntKind} {v : Value} {r : Option Value} (ht : P.underlying t = some (.int k)) (hr : r = some v) (h : ∃ k y, DataW.trod enc P w base spare held k t [v] = some y) : r = some (.int k (intAt r)) ∧ (Lit.int k (intAt r)).wf = true := by
  obtain ⟨k', y, hy⟩ := h
  obtain ⟨s, hs, _, hle⟩ := DataW.trod_int ht hy
  simp at hs
  subst hs hr
  exact ⟨rfl, hle⟩
end
theorem wf_i64 {n : Int} (h : (Lit.int .i64 n).wf = true) : -9223372036854775808 ≤ n ∧ n ≤ 9223372036854775807 := by
  have e : IntKind.i64.min = -9223372036854775808 := by rfl
  have h2 : IntKind.i64.min ≤ n ∧ n ≤ 9223372036854775807 := by simpa [Lit.wf] using h
  rw [e] at h2
  exact h2
end Go.Proofs.Ytlegehjdojhfgaa
