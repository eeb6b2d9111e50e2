/- A slice of the type Arc that came in: opened, measured, copied. -/
import Derived.Test.YtnfdodgecbibjaaArc
import Derived.Test.YtnfdodgecbibjaaOpen
namespace Go.Proofs.Ytnfdodgecbibjaa
open Go.ChangeShapes Go.WideShapes Go.ChangeAt Go.RowKit Go.Deep
/-- Fields of one type that take two cells each. -/
def twoCellFields (fs : Array Field) (p : TypeId) : Bool := (List.range fs.size).all fun i => match fs[i]? with
  | some f => f.offset == i * 2 && f.type == p
  | none => false

theorem two_of {fs : Array Field} {p : TypeId} (h : twoCellFields fs p = true) : ∀ (i : Nat) (f : Field), fs[i]? = some f → f.offset = i * 2 ∧ f.type = p := by
  intro i f hi
  have hlt : i < fs.size := (Array.getElem?_eq_some_iff.1 hi).1
  have := List.all_eq_true.1 h i (List.mem_range.2 hlt)
  simp only [hi, Bool.and_eq_true, beq_iff_eq] at this
  exact this

section
variable {H : Type} {enc : TypeId × Value → H} {P : Program} {w : World} {base : Nat} {spare : Nat → Bool} {held : Bool}
/-- A struct whose fields are structs of two cells: the values in it. -/
theorem two_cells {e p : TypeId} {fs gs : Array Field} {k : Nat} {cs : List Value} {x : DataW H × List MemPlace} (he : P.underlying e = some (.struct fs)) (hp : P.underlying p = some (.struct gs))
    (h2 : twoCellFields fs p = true) (hone : oneCellFields P gs = true) (hg : gs.size = 2) (hCp : P.cellsOf p = 2) (hC : P.cellsOf e = fs.size * 2) (h : DataW.trod enc P w base spare held k e cs = some x) :
    ∀ q, q < fs.size * 2 → ∃ v, cs[q]? = some v ∧ ∃ (g : Field) (k : Nat) (y : DataW H × List MemPlace), gs[q % 2]? = some g ∧ DataW.trod enc P w base spare held k g.type [v] = some y := by
  obtain ⟨ys, n', _, hy, hlen, hyl, hf⟩ := DataW.trod_struct he h
  rw [hC] at hlen
  intro q hq
  have hj : q / 2 < fs.size := by omega
  have hfj : fs[q / 2]? = some (fs[q / 2]'hj) := Array.getElem?_eq_getElem hj
  obtain ⟨o1, t1⟩ := two_of h2 _ _ hfj
  have h1 := hf _ _ hfj
  rw [o1, t1, hCp] at h1
  have hys : ys[q / 2]? = some (ys[q / 2]'(by omega)) := List.getElem?_eq_getElem (by omega)
  rw [hys] at h1
  obtain ⟨zs, n2, _, hz, hlen2, hzl, hf2⟩ := DataW.trod_struct hp h1
  have hr : q % 2 < gs.size := by omega
  have hgr : gs[q % 2]? = some (gs[q % 2]'hr) := Array.getElem?_eq_getElem hr
  obtain ⟨o2, k2⟩ := hone_of hone _ _ hgr
  have h3 := hf2 _ _ hgr
  rw [o2, k2] at h3
  have hv : cs[q]? = some (cs[q]'(by omega)) := List.getElem?_eq_getElem (by omega)
  have hone' : (((cs.drop (q / 2 * 2)).take 2).drop (q % 2)).take 1 = [cs[q]'(by omega)] := by
    rw [List.drop_take, List.drop_drop, List.take_take, Nat.min_eq_left (by omega), show q / 2 * 2 + q % 2 = q by omega, List.drop_eq_getElem_cons (by omega)]
    rfl
  rw [hone'] at h3
  have hzs : zs[q % 2]? = some (zs[q % 2]'(by omega)) := List.getElem?_eq_getElem (by omega)
  exact ⟨_, hv, _, _, _, hgr, h3.trans hzs⟩
end

theorem arcs_of {H : Type} {enc : TypeId × Value → H} {w : World} {base : Nat} {spare : Nat → Bool} {held : Bool} {fuel n c : Nat} {a : Option Addr} {x : DataW H × List MemPlace}
    (h : DataW.trod enc Try.prog w base spare held fuel 22 [.slice a n c] = some x) :
    n = 0 ∨ ∃ b off, a = some ⟨b, off, none⟩ ∧ b < w.heap.size ∧ n ≤ maxLen ∧ ∀ i, i < n → ∀ q, q < 6 → ∃ z, w.cell? ⟨b, off + i * 6 + q, none⟩ = some (.int .i64 z) ∧ (Lit.int .i64 z).wf = true := by
  have hC : Try.prog.cellsOf 47 = 6 := by kernel_rfl
  have hCp : Try.prog.cellsOf 45 = 2 := by kernel_rfl
  rcases open_slice Try.underlying22 h with ⟨h0, _⟩ | ⟨ad, len, cap, mm, k, D, Pl, hcs, _, hl, hcap, hmm, _, hi⟩
  · left; simp at h0; exact h0.2.1
  · simp at hcs
    obtain ⟨rfl, rfl, rfl⟩ := hcs
    by_cases hn : n = 0
    · exact .inl hn
    have key : ∀ i, i < n → ∀ q, q < 6 → ∃ z, w.cell? (ad.add (i * 6 + q)) = some (.int .i64 z) ∧ (Lit.int .i64 z).wf = true := by
      intro i hin q hq
      obtain ⟨cs', hc, ht'⟩ := hi i (by rw [hmm]; split <;> omega)
      rw [hC] at hc
      obtain ⟨v, hv, g, k', y, hg, hy⟩ := two_cells Try.underlying47 Try.underlying45 (by kernel_rfl) (by kernel_rfl) rfl hCp hC ht' q hq
      obtain ⟨_, hcl, hat⟩ := World.cells?_some hc
      have hcell := hat q hq
      have hg2 : g.type = 2 := by
        have : q % 2 = 0 ∨ q % 2 = 1 := by omega
        rcases this with h | h <;> (rw [h] at hg; simp at hg; rw [← hg])
      rw [hg2] at hy
      obtain ⟨s, hs, _, hle⟩ := DataW.trod_int Try.underlying2 hy
      simp at hs
      subst hs
      refine ⟨s, ?_, hle⟩
      rw [← Go.Deep.add_add, hcell, hv]
    right
    obtain ⟨b, off, spot⟩ := ad
    obtain ⟨v0, hv0, _⟩ := key 0 (by omega) 0 (by omega)
    have hspot : spot = none := by simpa [Addr.add] using World.cell?_spot hv0
    subst hspot
    have hadd : ∀ q, (Addr.add ⟨b, off, none⟩ q : Addr) = ⟨b, off + q, none⟩ := by
      intro q; unfold Addr.add; split
      · rename_i h0; rw [h0]; rfl
      · rfl
    rw [hadd] at hv0
    refine ⟨b, off, rfl, lt_of_cell hv0, by omega, fun i hin q hq => ?_⟩
    obtain ⟨z, hz, hr⟩ := key i hin q hq
    rw [hadd, ← Nat.add_assoc] at hz
    exact ⟨z, hz, hr⟩

/-- A slice of arcs that came in: it is empty, or its cells can be read. -/
def InArc (w : World) (a : Option Addr) (n : Nat) (F0 : Nat → Int) (F1 : Nat → Int) (F2 : Nat → Int) (F3 : Nat → Int) (F4 : Nat → Int) (F5 : Nat → Int) : Prop := (n = 0 ∨ ∃ b off, a = some ⟨b, off, none⟩ ∧ b < w.heap.size ∧ n ≤ maxLen ∧ RdArc w b off n F0 F1 F2 F3 F4 F5) ∧ ((∀ i, i < n → (Lit.int .i64 (F0 i)).wf = true) ∧ (∀ i, i < n → (Lit.int .i64 (F1 i)).wf = true) ∧ (∀ i, i < n → (Lit.int .i64 (F2 i)).wf = true) ∧ (∀ i, i < n → (Lit.int .i64 (F3 i)).wf = true) ∧ (∀ i, i < n → (Lit.int .i64 (F4 i)).wf = true) ∧ (∀ i, i < n → (Lit.int .i64 (F5 i)).wf = true))

theorem InArc.below {w w' : World} {a : Option Addr} {n : Nat} {F0 : Nat → Int} {F1 : Nat → Int} {F2 : Nat → Int} {F3 : Nat → Int} {F4 : Nat → Int} {F5 : Nat → Int} (h : InArc w a n F0 F1 F2 F3 F4 F5) (hb : Below w.heap.size w w') : InArc w' a n F0 F1 F2 F3 F4 F5 := by
  obtain ⟨h1, h2⟩ := h
  refine ⟨?_, h2⟩
  rcases h1 with h1 | ⟨b, off, rfl, hbl, hn, hr⟩
  · exact .inl h1
  · refine .inr ⟨b, off, rfl, Nat.lt_of_lt_of_le hbl hb.size, hn, fun i hi => ?_⟩
    have hc := bcell hb
    obtain ⟨c0, c1, c2, c3, c4, c5⟩ := hr i hi
    exact ⟨(hc _ _ hbl).trans c0, (hc _ _ hbl).trans c1, (hc _ _ hbl).trans c2, (hc _ _ hbl).trans c3, (hc _ _ hbl).trans c4, (hc _ _ hbl).trans c5⟩

theorem szArcS_in (a : Option Addr) (n c : Nat) (F0 : Nat → Int) (F1 : Nat → Int) (F2 : Nat → Int) (F3 : Nat → Int) (F4 : Nat → Int) (F5 : Nat → Int) (w : World) (h : InArc w a n F0 F1 F2 F3 F4 F5) :
    Calls Try.prog 8 #[.slice a n c, .int .i64 1048576] w (SzPost n w) := by
  obtain ⟨h1, _⟩ := h
  rcases h1 with rfl | ⟨b, off, rfl, hbl, hn, hr⟩
  · exact szArcS_any a 0 c w (by unfold maxLen; omega)
  · exact szArcS_any _ n c w hn

theorem toArcS_in (a : Option Addr) (n c : Nat) (F0 : Nat → Int) (F1 : Nat → Int) (F2 : Nat → Int) (F3 : Nat → Int) (F4 : Nat → Int) (F5 : Nat → Int) (w : World) (h : InArc w a n F0 F1 F2 F3 F4 F5) (hm : n ≤ 1048576) :
    Calls Try.prog 10 #[.slice a n c] w (ToArcPost n F0 F1 F2 F3 F4 F5 w) := by
  obtain ⟨h1, _⟩ := h
  rcases h1 with rfl | ⟨b, off, rfl, hbl, hn, hr⟩
  · exact toArcS_nil a c F0 F1 F2 F3 F4 F5 w
  · exact toArcS_any b off n c F0 F1 F2 F3 F4 F5 w hbl hm hr

theorem inArc_of {H : Type} {enc : TypeId × Value → H} {w : World} {base : Nat} {spare : Nat → Bool} {held : Bool} {fuel n c : Nat} {a : Option Addr} {x : DataW H × List MemPlace}
    (h : DataW.trod enc Try.prog w base spare held fuel 22 [.slice a n c] = some x) : ∃ F0 F1 F2 F3 F4 F5, InArc w a n F0 F1 F2 F3 F4 F5 := by
  rcases arcs_of h with h0 | ⟨b, off, rfl, hbl, hn, hr⟩
  · subst h0
    exact ⟨fun _ => 0, fun _ => 0, fun _ => 0, fun _ => 0, fun _ => 0, fun _ => 0, .inl rfl, fun i hi => absurd hi (by omega), fun i hi => absurd hi (by omega), fun i hi => absurd hi (by omega), fun i hi => absurd hi (by omega), fun i hi => absurd hi (by omega), fun i hi => absurd hi (by omega)⟩
  · have key : ∀ i, i < n → ∀ q, q < 6 → w.cell? ⟨b, off + i * 6 + q, none⟩ = some (.int .i64 (intAt (w.cell? ⟨b, off + i * 6 + q, none⟩))) ∧ (Lit.int .i64 (intAt (w.cell? ⟨b, off + i * 6 + q, none⟩))).wf = true := by
      intro i hi q hq
      obtain ⟨z, hz, hw⟩ := hr i hi q hq
      rw [hz]
      exact ⟨rfl, hw⟩
    exact ⟨fun i => intAt (w.cell? ⟨b, off + i * 6, none⟩), fun i => intAt (w.cell? ⟨b, off + i * 6 + 1, none⟩), fun i => intAt (w.cell? ⟨b, off + i * 6 + 2, none⟩), fun i => intAt (w.cell? ⟨b, off + i * 6 + 3, none⟩), fun i => intAt (w.cell? ⟨b, off + i * 6 + 4, none⟩), fun i => intAt (w.cell? ⟨b, off + i * 6 + 5, none⟩), .inr ⟨b, off, rfl, hbl, hn, fun i hi => ⟨(key i hi 0 (by omega)).1, (key i hi 1 (by omega)).1, (key i hi 2 (by omega)).1, (key i hi 3 (by omega)).1, (key i hi 4 (by omega)).1, (key i hi 5 (by omega)).1⟩⟩, fun i hi => (key i hi 0 (by omega)).2, fun i hi => (key i hi 1 (by omega)).2, fun i hi => (key i hi 2 (by omega)).2, fun i hi => (key i hi 3 (by omega)).2, fun i hi => (key i hi 4 (by omega)).2, fun i hi => (key i hi 5 (by omega)).2⟩
end Go.Proofs.Ytnfdodgecbibjaa
