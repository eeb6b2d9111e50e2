/- Slices of Steps: copied, compared, opened. -/
import Derived.Test.YtllmillhdmknpaaStep
import Derived.Test.YtllmillhdmknpaaOpen
import Derived.Test.YtllmillhdmknpaaMore
namespace Go.Proofs.Ytllmillhdmknpaa
open Go.ChangeShapes Go.WideShapes Go.ChangeAt Go.RowKit Go.Deep
attribute [local go_sem ↓] Go.wp_at_zero Go.wp_at_succ
theorem Part.same {w : World} {g M k : Nat} {t : TypeId} {f : Nat → Value} (h : Part w g t M k f) {f' : Nat → Value} (he : ∀ i, i < k → f i = f' i) : Part w g t M k f' := by
  obtain ⟨h', hr, hf⟩ := h
  exact ⟨h', hr, fun i hi => (hf i hi).trans (he i hi)⟩
theorem infoStep : (Try.prog.info? 128).map (fun i => (i.zero, i.size, i.bytes)) = some (some (.agg #[.string ByteArray.empty, .int .i64 0, .int .i64 0, .slice none 0 0]), 4, 56) := by kernel_rfl

/-- What the copy of a slice hands back. -/
def ToStepPost (n : Nat) (F0 : Nat → ByteArray) (F1 F2 : Nat → Int) (N : Nat → Nat) (Z : Nat → Nat → Int) (w : World) (e : Ending) (w' : World) : Prop := ∃ G, e = .returned (.slice (some ⟨w.heap.size, 0, none⟩) n n) ∧ DpStep w' w.heap.size n F0 F1 F2 G N Z ∧ Below w.heap.size w w'

/-- One place of a function of places turned. -/
def upd (G : Nat → Nat) (k v : Nat) (i : Nat) : Nat := if i = k then v else G i

theorem upd_at (G : Nat → Nat) (k v : Nat) : upd G k v k = v := by unfold upd; rw [if_pos rfl]

theorem upd_no (G : Nat → Nat) {k v i : Nat} (h : i ≠ k) : upd G k v i = G i := by unfold upd; rw [if_neg h]

theorem flat_upd {F0 : Nat → ByteArray} {F1 F2 : Nat → Int} {G N : Nat → Nat} {k v j : Nat} (hj : j < k * 4) : flat 4 (rowStep F0 F1 F2 (upd G k v) N) j = flat 4 (rowStep F0 F1 F2 G N) j := by
  unfold flat rowStep
  split
  · rfl
  · rfl
  · rfl
  · rw [upd_no _ (by omega)]

set_option maxHeartbeats 1000000 in
theorem toStepS_any (b off n c : Nat) (F0 : Nat → ByteArray) (F1 F2 : Nat → Int) (A : Nat → Option Addr) (N C : Nat → Nat) (Z : Nat → Nat → Int) (w : World) (hb : b < w.heap.size) (hn : n ≤ 1048576) (hr : RdStep w b off n F0 F1 F2 A N C) (hi : ∀ i, i < n → InInts w (A i) (N i) (Z i)) (hN : ∀ i, i < n → N i ≤ 1048576) :
    Calls Try.prog 41 #[.slice (some ⟨b, off, none⟩) n c] w (ToStepPost n F0 F1 F2 N Z w) := by
  have HR := Lib.hid hr
  have HI := Lib.hid hi
  have HN := Lib.hid hN
  clear hr hi hN
  obtain ⟨i0, hi, hz0, hz1, hz2⟩ := info_parts infoStep
  have hmk := fun W => run_make_rowN (P := Try.prog) 64 128 i0 _ Try.underlying64 hi hz0 .i64 .i64 n n (Nat.le_refl _) (by rw [hz2]; omega) (by omega) W
  rw [hz1] at hmk
  clear hi hz0 hz1 hz2
  go_enter Try.func41, Try.ntmps41
  go_wp2
  clear hmk
  go_loopw [4] (fun i wr => ∃ (k : Nat) (G : Nat → Nat), k ≤ n ∧ i = .int .i64 k ∧ Below w.heap.size w wr ∧ Part wr w.heap.size 128 (n * 4) (k * 4) (flat 4 (rowStep F0 F1 F2 G N)) ∧ ∀ j, j < k → w.heap.size < G j ∧ wr.rowIs (G j) 2 (N j) (rowInts (Z j))) (fun i _ => n - (intOf i).toNat)
  case atStart => exact ⟨0, fun _ => 0, Nat.zero_le _, rfl, below_new _ _, (Part.made w _ _ _ _).upto (by omega), fun j hj => absurd hj (by omega)⟩
  case round =>
    obtain ⟨k, G, hk, rfl, hbel, hpart, hrows⟩ := hrel
    have HW := Lib.hid hrows
    clear hrows
    by_cases hlt : k < n
    · obtain ⟨c0, c1, c2, c3⟩ := HR.out k hlt
      have hbc := bcell hbel
      rw [← hbc _ _ hb] at c0 c1 c2 c3
      clear hbc
      have hgl := hpart.lt
      have HP := Lib.hid hpart
      clear hpart
      have HIk := Lib.hid ((HI.out k hlt).below hbel)
      have hnk := HN.out k hlt
      go_wp2_with fail
      refine (toStep_any _ _ _ _ _ _ (Z k) _ HIk.out hnk).mono ?_
      rintro e w1 ⟨g1, rfl, hg1, R1, hB⟩
      have hP1 := HP.out.below hB hgl
      have hb1 := hbel.trans (hB.mono hbel.size)
      have hS1 := hB.size
      have HW1 := Lib.hid (show ∀ j, j < k + 1 → w.heap.size < upd G k g1 j ∧ w1.rowIs (upd G k g1 j) 2 (N j) (rowInts (Z j)) from fun j hj => if e : j = k then by rw [e, upd_at]; exact ⟨by omega, R1⟩ else by rw [upd_no _ e]; exact ⟨(HW.out j (by omega)).1, row_below (HW.out j (by omega)).2 hB (HW.out j (by omega)).2.lt⟩)
      clear c0 c1 c2 c3 HP hbel HW HIk
      obtain ⟨v0, d0⟩ := hP1.cell (i := k * 4) (by omega)
      obtain ⟨v1, d1⟩ := hP1.cell (i := k * 4 + 1) (by omega)
      obtain ⟨v2, d2⟩ := hP1.cell (i := k * 4 + 2) (by omega)
      obtain ⟨v3, d3⟩ := hP1.cell (i := k * 4 + 3) (by omega)
      have f0 := hP1.frozen (k * 4)
      have f1 := hP1.frozen (k * 4 + 1)
      have f2 := hP1.frozen (k * 4 + 2)
      have f3 := hP1.frozen (k * 4 + 3)
      have HP := Lib.hid hP1
      clear hP1 hB R1
      go_wp2
      go_roundw
      case rel =>
        refine ⟨k + 1, upd G k g1, by omega, by go_num, ((((hb1.setCell (by simp) _).setCell (by simp) _).setCell (by simp) _).setCell (by simp) _), (((((HP.out.same (f' := flat 4 (rowStep F0 F1 F2 (upd G k g1) N)) (fun j hj => (flat_upd hj).symm)).put (j := k * 4) (by omega) (v := .string (F0 k)) (by rw [show k * 4 = k * 4 from rfl]; exact flat_at0 _ _ _ (by omega))).put (j := k * 4 + 1) (by omega) (v := .int .i64 (F1 k)) (by rw [show k * 4 + 1 = k * 4 + 1 from rfl]; exact flat_at _ _ _ _ (by omega))).put (j := k * 4 + 2) (by omega) (v := .int .i64 (F2 k)) (by rw [show k * 4 + 1 + 1 = k * 4 + 2 from rfl]; exact flat_at _ _ _ _ (by omega))).put (j := k * 4 + 3) (by omega) (v := .slice (some ⟨g1, 0, none⟩) (N k) (N k)) (by rw [show k * 4 + 1 + 1 + 1 = k * 4 + 3 from rfl]; rw [flat_at _ _ _ _ (by omega)]; show (.slice (some ⟨upd G k g1 k, 0, none⟩) (N k) (N k) : Value) = _; rw [upd_at])).upto (by omega), fun j hj => ?_⟩
        have h := HW1.out j hj
        exact ⟨h.1, row_set_other (row_set_other (row_set_other (row_set_other h.2 (by simp; omega)) (by simp; omega)) (by simp; omega)) (by simp; omega)⟩
      case measure => simp [intOf]; omega
    · obtain rfl : k = n := by omega
      go_wp2
      go_ret
      exact ⟨G, rfl, ⟨hpart.whole, fun i hi => (HW.out i hi).2⟩, hbel⟩

set_option maxHeartbeats 400000 in
theorem toStepS_nil (ad : Option Addr) (c : Nat) (F0 : Nat → ByteArray) (F1 F2 : Nat → Int) (N : Nat → Nat) (Z : Nat → Nat → Int) (w : World) :
    Calls Try.prog 41 #[.slice ad 0 c] w (ToStepPost 0 F0 F1 F2 N Z w) := by
  have hmk : ∀ W : World, (Instr.makeSlice 64 (.int .i64 0) (.int .i64 0)).run Try.prog W = .ok (.slice (some ⟨W.heap.size, 0, none⟩) 0 0) (W.alloc (.cells #[] 128)) := fun _ => by kernel_rfl
  go_enter Try.func41, Try.ntmps41
  go_wp2
  clear hmk
  go_loopw [4] (fun i wr => i = .int .i64 0 ∧ wr = w.alloc (.cells #[] 128)) (fun _ _ => 0)
  case atStart => exact ⟨rfl, rfl⟩
  case round =>
    obtain ⟨rfl, rfl⟩ := hrel
    go_wp2
    go_ret
    exact ⟨fun _ => 0, rfl, ⟨by simpa using World.rowIs_alloc w #[] 128 _ (fun i hi => absurd hi (by simp)), fun i hi => absurd hi (by omega)⟩, below_new _ _⟩

set_option maxHeartbeats 1000000 in
theorem eqStep_any (x0 : ByteArray) (x1 x2 : Int) (g1 g2 nn : Nat) (z : Nat → Int) (w : World) (hn : nn ≤ 1048576) (r1 : w.rowIs g1 2 nn (rowInts z)) (r2 : w.rowIs g2 2 nn (rowInts z)) :
    Calls Try.prog 104 #[.agg #[.string x0, .int .i64 x1, .int .i64 x2, .slice (some ⟨g1, 0, none⟩) nn nn], .agg #[.string x0, .int .i64 x1, .int .i64 x2, .slice (some ⟨g2, 0, none⟩) nn nn]] w fun e w' => e = .returned (.bool true) ∧ Below w.heap.size w w' := by
  have R1 := Lib.hid ((r1.alloc (.cells #[.string x0, .int .i64 x1, .int .i64 x2, .slice (some ⟨g1, 0, none⟩) nn nn] 128)).alloc (.cells #[.string x0, .int .i64 x1, .int .i64 x2, .slice (some ⟨g2, 0, none⟩) nn nn] 128))
  have R2 := Lib.hid ((r2.alloc (.cells #[.string x0, .int .i64 x1, .int .i64 x2, .slice (some ⟨g1, 0, none⟩) nn nn] 128)).alloc (.cells #[.string x0, .int .i64 x1, .int .i64 x2, .slice (some ⟨g2, 0, none⟩) nn nn] 128))
  clear r1 r2
  go_enter Try.func104, Try.ntmps104
  go_wp2_with fail
  refine (eqInt64S_any g1 g2 nn z _ _ _ hn R1.out R2.out).mono ?_
  rintro e w1 ⟨rfl, hb⟩
  have C1 := ((below_new w (.cells #[.string x0, .int .i64 x1, .int .i64 x2, .slice (some ⟨g1, 0, none⟩) nn nn] 128)).alloc (by simp) (.cells #[.string x0, .int .i64 x1, .int .i64 x2, .slice (some ⟨g2, 0, none⟩) nn nn] 128)).trans (hb.mono (by simp; omega))
  go_wp2
  go_ret
  exact ⟨rfl, C1⟩

set_option maxHeartbeats 2000000 in
theorem eqStepS_any (g1 g2 n : Nat) (F0 : Nat → ByteArray) (F1 F2 : Nat → Int) (G1 G2 N : Nat → Nat) (Z : Nat → Nat → Int) (w : World) (hn : n ≤ 1048576) (hN : ∀ i, i < n → N i ≤ 1048576) (h1 : DpStep w g1 n F0 F1 F2 G1 N Z) (h2 : DpStep w g2 n F0 F1 F2 G2 N Z) :
    Calls Try.prog 43 #[.slice (some ⟨g1, 0, none⟩) n n, .slice (some ⟨g2, 0, none⟩) n n] w fun e w' => e = .returned (.bool true) ∧ Below w.heap.size w w' := by
  have hl1 := h1.1.lt
  have hl2 := h2.1.lt
  have H1 := Lib.hid h1
  have H2 := Lib.hid h2
  have HN := Lib.hid hN
  clear h1 h2 hN
  go_enter Try.func43, Try.ntmps43
  go_wp2
  go_loopw [5] (fun i wr => ∃ (k : Nat), k ≤ n ∧ i = .int .i64 k ∧ Below w.heap.size w wr) (fun i _ => n - (intOf i).toNat)
  case atStart => exact ⟨0, Nat.zero_le _, rfl, Below.refl _ _⟩
  case round =>
    obtain ⟨k, hk, rfl, hbel⟩ := hrel
    by_cases hlt : k < n
    · have hlti : (k : Int) < (n : Int) := by omega
      have hki : (0 : Int) ≤ (k : Int) := by omega
      have D1 := H1.out.below hbel
      have D2 := H2.out.below hbel
      obtain ⟨c0, c1, c2, c3⟩ := D1.at k hlt
      obtain ⟨d0, d1, d2, d3⟩ := D2.at k hlt
      have hg1 : g1 < wr.heap.size := D1.1.lt
      have hg2 : g2 < wr.heap.size := D2.1.lt
      have HQ1 := Lib.hid (D1.2 k hlt)
      have HQ2 := Lib.hid (D2.2 k hlt)
      have hnk := HN.out k hlt
      clear D1 D2
      have cy0 := Ext.cell (W := wr) (b := g1) (o := k * 4) (u := .string (F0 k)) c0 hg1
      have cy1 := Ext.cell (W := wr) (b := g1) (o := k * 4 + 1) (u := .int .i64 (F1 k)) c1 hg1
      have cy2 := Ext.cell (W := wr) (b := g1) (o := k * 4 + 2) (u := .int .i64 (F2 k)) c2 hg1
      have cy3 := Ext.cell (W := wr) (b := g1) (o := k * 4 + 3) (u := .slice (some ⟨G1 k, 0, none⟩) (N k) (N k)) c3 hg1
      have dy0 := Ext.cell (W := wr) (b := g2) (o := k * 4) (u := .string (F0 k)) d0 hg2
      have dy1 := Ext.cell (W := wr) (b := g2) (o := k * 4 + 1) (u := .int .i64 (F1 k)) d1 hg2
      have dy2 := Ext.cell (W := wr) (b := g2) (o := k * 4 + 2) (u := .int .i64 (F2 k)) d2 hg2
      have dy3 := Ext.cell (W := wr) (b := g2) (o := k * 4 + 3) (u := .slice (some ⟨G2 k, 0, none⟩) (N k) (N k)) d3 hg2
      go_wp2
      refine wp_region_ext (by kernel_rfl) (by kernel_rfl) ?_
      repeat (go_big_quiet_step ((go_at_call 104; exact ext_call (eqStep_any _ _ _ _ _ _ (Z k) _ hnk (row_below HQ1.out (Ext.h _) HQ1.out.lt) (row_below HQ2.out (Ext.h _) HQ2.out.lt)))))
      refine wpQuiet_nil ?_
      intro W1 hx
      obtain ⟨x, hx⟩ := hx
      have hW1 := x.h
      rw [← hx] at hW1
      have hB := hbel.trans (hW1.mono hbel.size)
      clear hx x hW1 cy0 c0 cy1 c1 cy2 c2 cy3 c3 dy0 d0 dy1 d1 dy2 d2 dy3 d3
      go_wp2
      go_roundw
      case rel => exact ⟨k + 1, by omega, by go_num, hB⟩
      case measure => simp [intOf]; omega
    · go_wp2
      go_ret
      exact ⟨rfl, hbel⟩

/-- A slice of Steps that came in. -/
def InStep (w : World) (a : Option Addr) (n : Nat) (F0 : Nat → ByteArray) (F1 F2 : Nat → Int) (A : Nat → Option Addr) (N C : Nat → Nat) (Z : Nat → Nat → Int) : Prop := (n = 0 ∨ ∃ b off, a = some ⟨b, off, none⟩ ∧ b < w.heap.size ∧ n ≤ maxLen ∧ RdStep w b off n F0 F1 F2 A N C) ∧ (∀ i, i < n → (F0 i).size ≤ maxLen) ∧ ∀ i, i < n → InInts w (A i) (N i) (Z i)

theorem InStep.below {w w' : World} {a : Option Addr} {n : Nat} {F0 : Nat → ByteArray} {F1 F2 : Nat → Int} {A : Nat → Option Addr} {N C : Nat → Nat} {Z : Nat → Nat → Int} (h : InStep w a n F0 F1 F2 A N C Z) (hb : Below w.heap.size w w') : InStep w' a n F0 F1 F2 A N C Z := by
  obtain ⟨h1, h2, h3⟩ := h
  refine ⟨?_, h2, fun i hi => (h3 i hi).below hb⟩
  rcases h1 with h1 | ⟨b, off, rfl, hbl, hn, hr⟩
  · exact .inl h1
  · refine .inr ⟨b, off, rfl, Nat.lt_of_lt_of_le hbl hb.size, hn, fun i hi => ?_⟩
    have hc := bcell hb
    obtain ⟨c0, c1, c2, c3⟩ := hr i hi
    exact ⟨(hc _ _ hbl).trans c0, (hc _ _ hbl).trans c1, (hc _ _ hbl).trans c2, (hc _ _ hbl).trans c3⟩

theorem szStepS_in (a : Option Addr) (n c : Nat) (F0 : Nat → ByteArray) (F1 F2 : Nat → Int) (A : Nat → Option Addr) (N C : Nat → Nat) (Z : Nat → Nat → Int) (w : World) (h : InStep w a n F0 F1 F2 A N C Z) :
    Calls Try.prog 39 #[.slice a n c, .int .i64 1048576] w (SzN n N w) := by
  obtain ⟨h1, h2, h3⟩ := h
  rcases h1 with rfl | ⟨b, off, rfl, hbl, hn, hr⟩
  · exact szStepS_nil a c N w
  · exact szStepS_any b off n c F0 F1 F2 A N C w hbl hn hr h2 (fun i hi => (h3 i hi).2.1)

theorem toStepS_in (a : Option Addr) (n c : Nat) (F0 : Nat → ByteArray) (F1 F2 : Nat → Int) (A : Nat → Option Addr) (N C : Nat → Nat) (Z : Nat → Nat → Int) (w : World) (h : InStep w a n F0 F1 F2 A N C Z) (hm : n ≤ 1048576) (hN : ∀ i, i < n → N i ≤ 1048576) :
    Calls Try.prog 41 #[.slice a n c] w (ToStepPost n F0 F1 F2 N Z w) := by
  obtain ⟨h1, h2, h3⟩ := h
  rcases h1 with rfl | ⟨b, off, rfl, hbl, hn, hr⟩
  · exact toStepS_nil a c F0 F1 F2 N Z w
  · exact toStepS_any b off n c F0 F1 F2 A N C Z w hbl hm hr h3 hN

theorem slice_is {H : Type} {enc : TypeId × Value → H} {w : World} {base : Nat} {spare : Nat → Bool} {held : Bool} {v : Value} (h : ∃ k y, DataW.trod enc Try.prog w base spare held k 38 [v] = some y) : ∃ p : Option Addr × Nat × Nat × (Nat → Int), v = .slice p.1 p.2.1 p.2.2.1 ∧ InInts w p.1 p.2.1 p.2.2.2 := by
  obtain ⟨k, y, hy⟩ := h
  have hy2 := hy
  rcases open_ints Try.underlying38 Try.underlying2 (by kernel_rfl) hy with ⟨hcs, _⟩ | ⟨ad, l, c, zs, hcs, _⟩
  · simp at hcs
    subst hcs
    obtain ⟨z, hz⟩ := inInts_of hy2
    exact ⟨⟨_, _, _, z⟩, rfl, hz⟩
  · simp at hcs
    subst hcs
    obtain ⟨z, hz⟩ := inInts_of hy2
    exact ⟨⟨_, _, _, z⟩, rfl, hz⟩

theorem inStep_of {H : Type} {enc : TypeId × Value → H} {w : World} {base : Nat} {spare : Nat → Bool} {held : Bool} {fuel n c : Nat} {a : Option Addr} {x : DataW H × List MemPlace}
    (h : DataW.trod enc Try.prog w base spare held fuel 61 [.slice a n c] = some x) : ∃ F0 F1 F2 A N C Z, InStep w a n F0 F1 F2 A N C Z := by
  rcases rows_of (fs := _) Try.underlying61 (Try.underlying127) (by kernel_rfl) (by kernel_rfl) (by decide) h with h0 | ⟨b, off, rfl, hbl, hn, hr⟩
  · subst h0
    exact ⟨fun _ => ByteArray.empty, fun _ => 0, fun _ => 0, fun _ => none, fun _ => 0, fun _ => 0, fun _ _ => 0, .inl rfl, fun i hi => absurd hi (by omega), fun i hi => absurd hi (by omega)⟩
  · have hq : ∀ i, ∃ p : Option Addr × Nat × Nat × (Nat → Int), i < n → (w.cell? ⟨b, off + i * 4 + 3, none⟩ = some (.slice p.1 p.2.1 p.2.2.1) ∧ InInts w p.1 p.2.1 p.2.2.2) := by
      intro i
      by_cases hi : i < n
      · obtain ⟨v3, hv3, hy3⟩ := hr i hi 3 _ rfl
        obtain ⟨p, rfl, hp⟩ := slice_is hy3
        exact ⟨p, fun _ => ⟨hv3, hp⟩⟩
      · exact ⟨⟨none, 0, 0, fun _ => 0⟩, fun h => absurd h hi⟩
    obtain ⟨f, hf⟩ := Classical.axiomOfChoice hq
    have key : ∀ i, i < n → (w.cell? ⟨b, off + i * 4, none⟩ = some (.string (strAt (w.cell? ⟨b, off + i * 4, none⟩))) ∧ (strAt (w.cell? ⟨b, off + i * 4, none⟩)).size ≤ maxLen) ∧ (w.cell? ⟨b, off + i * 4 + 1, none⟩ = some (.int .i64 (intAt (w.cell? ⟨b, off + i * 4 + 1, none⟩)))) ∧ (w.cell? ⟨b, off + i * 4 + 2, none⟩ = some (.int .i64 (intAt (w.cell? ⟨b, off + i * 4 + 2, none⟩)))) := by
      intro i hi
      obtain ⟨v0, hv0, hy0⟩ := hr i hi 0 _ rfl
      obtain ⟨v1, hv1, hy1⟩ := hr i hi 1 _ rfl
      obtain ⟨v2, hv2, hy2⟩ := hr i hi 2 _ rfl
      exact ⟨string_of Try.underlying9 hv0 hy0, (int_of Try.underlying2 hv1 hy1).1, (int_of Try.underlying2 hv2 hy2).1⟩
    exact ⟨fun i => strAt (w.cell? ⟨b, off + i * 4, none⟩), fun i => intAt (w.cell? ⟨b, off + i * 4 + 1, none⟩), fun i => intAt (w.cell? ⟨b, off + i * 4 + 2, none⟩), fun i => (f i).1, fun i => (f i).2.1, fun i => (f i).2.2.1, fun i => (f i).2.2.2, .inr ⟨b, off, rfl, hbl, hn, fun i hi => ⟨(key i hi).1.1, (key i hi).2.1, (key i hi).2.2, (hf i hi).1⟩⟩, fun i hi => (key i hi).1.2, fun i hi => (hf i hi).2⟩
end Go.Proofs.Ytllmillhdmknpaa
