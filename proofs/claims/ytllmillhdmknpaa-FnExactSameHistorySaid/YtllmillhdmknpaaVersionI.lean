/- Slices of versions: copied, compared, opened. -/
import Derived.Test.YtllmillhdmknpaaVersion
import Derived.Test.YtllmillhdmknpaaOpen
import Derived.Test.YtllmillhdmknpaaMore
namespace Go.Proofs.Ytllmillhdmknpaa
open Go.ChangeShapes Go.WideShapes Go.ChangeAt Go.RowKit Go.Deep
attribute [local go_sem ↓] Go.wp_at_zero Go.wp_at_succ
theorem infoVersion : (Try.prog.info? 138).map (fun i => (i.zero, i.size, i.bytes)) = some (some (.agg #[.int .i64 0, .int .i64 0, .string ByteArray.empty, .slice none 0 0]), 4, 56) := by kernel_rfl

theorem Part.same {w : World} {g M k : Nat} {t : TypeId} {f : Nat → Value} (h : Part w g t M k f) {f' : Nat → Value} (he : ∀ i, i < k → f i = f' i) : Part w g t M k f' := by
  obtain ⟨h', hr, hf⟩ := h
  exact ⟨h', hr, fun i hi => (hf i hi).trans (he i hi)⟩

/-- What the copy of a slice hands back. -/
def ToVersionPost (n : Nat) (F0 F1 : Nat → Int) (F2 : Nat → ByteArray) (N : Nat → Nat) (Y : Nat → Nat → ByteArray) (V : Nat → Nat → Int) (w : World) (e : Ending) (w' : World) : Prop := ∃ G, e = .returned (.slice (some ⟨w.heap.size, 0, none⟩) n n) ∧ DpVersion w' w.heap.size n F0 F1 F2 G N Y V ∧ Below w.heap.size w w'

/-- One place of a function of places turned. -/
def upd (G : Nat → Nat) (k v : Nat) (i : Nat) : Nat := if i = k then v else G i

theorem upd_at (G : Nat → Nat) (k v : Nat) : upd G k v k = v := by unfold upd; rw [if_pos rfl]

theorem upd_no (G : Nat → Nat) {k v i : Nat} (h : i ≠ k) : upd G k v i = G i := by unfold upd; rw [if_neg h]

theorem flat_upd {F0 F1 : Nat → Int} {F2 : Nat → ByteArray} {G N : Nat → Nat} {k v j : Nat} (hj : j < k * 4) : flat 4 (rowVersion F0 F1 F2 (upd G k v) N) j = flat 4 (rowVersion F0 F1 F2 G N) j := by
  unfold flat rowVersion
  split
  · rfl
  · rfl
  · rfl
  · rw [upd_no _ (by omega)]

set_option maxHeartbeats 1000000 in
theorem toVersionS_any (b off n c : Nat) (F0 F1 : Nat → Int) (F2 : Nat → ByteArray) (A : Nat → Option Addr) (N C : Nat → Nat) (Y : Nat → Nat → ByteArray) (V : Nat → Nat → Int) (w : World) (hb : b < w.heap.size) (hn : n ≤ 1048576) (hr : RdVersion w b off n F0 F1 F2 A N C) (hi : ∀ i, i < n → InSetting w (A i) (N i) (Y i) (V i)) (hN : ∀ i, i < n → N i ≤ 1048576) :
    Calls Try.prog 46 #[.slice (some ⟨b, off, none⟩) n c] w (ToVersionPost n F0 F1 F2 N Y V w) := by
  have HR := Lib.hid hr
  have HI := Lib.hid hi
  have HN := Lib.hid hN
  clear hr hi hN
  obtain ⟨i0, hi, hz0, hz1, hz2⟩ := info_parts infoVersion
  have hmk := fun W => run_make_rowN (P := Try.prog) 71 138 i0 _ Try.underlying71 hi hz0 .i64 .i64 n n (Nat.le_refl _) (by rw [hz2]; omega) (by omega) W
  rw [hz1] at hmk
  clear hi hz0 hz1 hz2
  go_enter Try.func46, Try.ntmps46
  go_wp2
  clear hmk
  go_loopw [4] (fun i wr => ∃ (k : Nat) (G : Nat → Nat), k ≤ n ∧ i = .int .i64 k ∧ Below w.heap.size w wr ∧ Part wr w.heap.size 138 (n * 4) (k * 4) (flat 4 (rowVersion F0 F1 F2 G N)) ∧ ∀ j, j < k → w.heap.size < G j ∧ wr.rowIs (G j) 143 (N j * 2) (flat 2 (rowSetting (Y j) (V j)))) (fun i _ => n - (intOf i).toNat)
  case atStart => exact ⟨0, fun _ => 0, Nat.zero_le _, rfl, below_new _ _, (Part.made w _ _ _ _).upto (by omega), fun j hj => absurd hj (by omega)⟩
  case round =>
    obtain ⟨k, G, hk, rfl, hbel, hpart, hrows⟩ := hrel
    have HW := Lib.hid hrows
    clear hrows
    by_cases hlt : k < n
    · obtain ⟨c0, c1, c2, c3⟩ := HR.out k hlt
      have hbc := bcell hbel
      rw [← hbc _ _ hb] at c0 c1 c2 c3
      clear hbc
      have hgl := hpart.lt
      have HP := Lib.hid hpart
      clear hpart
      have HIk := Lib.hid ((HI.out k hlt).below hbel)
      have hnk := HN.out k hlt
      go_wp2_with fail
      refine (toVersion_any _ _ _ _ _ _ (Y k) (V k) _ HIk.out hnk).mono ?_
      rintro e w1 ⟨g1, rfl, hg1, R1, hB⟩
      have hP1 := HP.out.below hB hgl
      have hb1 := hbel.trans (hB.mono hbel.size)
      have hS1 := hB.size
      have HW1 := Lib.hid (show ∀ j, j < k + 1 → w.heap.size < upd G k g1 j ∧ w1.rowIs (upd G k g1 j) 143 (N j * 2) (flat 2 (rowSetting (Y j) (V j))) from fun j hj => if e : j = k then by rw [e, upd_at]; exact ⟨by omega, R1⟩ else by rw [upd_no _ e]; exact ⟨(HW.out j (by omega)).1, row_below (HW.out j (by omega)).2 hB (HW.out j (by omega)).2.lt⟩)
      clear c0 c1 c2 c3 HP hbel HW HIk
      obtain ⟨v0, d0⟩ := hP1.cell (i := k * 4) (by omega)
      obtain ⟨v1, d1⟩ := hP1.cell (i := k * 4 + 1) (by omega)
      obtain ⟨v2, d2⟩ := hP1.cell (i := k * 4 + 2) (by omega)
      obtain ⟨v3, d3⟩ := hP1.cell (i := k * 4 + 3) (by omega)
      have f0 := hP1.frozen (k * 4)
      have f1 := hP1.frozen (k * 4 + 1)
      have f2 := hP1.frozen (k * 4 + 2)
      have f3 := hP1.frozen (k * 4 + 3)
      have HP := Lib.hid hP1
      clear hP1 hB R1
      go_wp2
      go_roundw
      case rel =>
        refine ⟨k + 1, upd G k g1, by omega, by go_num, ((((hb1.setCell (by simp) _).setCell (by simp) _).setCell (by simp) _).setCell (by simp) _), (((((HP.out.same (f' := flat 4 (rowVersion F0 F1 F2 (upd G k g1) N)) (fun j hj => (flat_upd hj).symm)).put (j := k * 4) (by omega) (v := .int .i64 (F0 k)) (by rw [show k * 4 = k * 4 from rfl]; exact flat_at0 _ _ _ (by omega))).put (j := k * 4 + 1) (by omega) (v := .int .i64 (F1 k)) (by rw [show k * 4 + 1 = k * 4 + 1 from rfl]; exact flat_at _ _ _ _ (by omega))).put (j := k * 4 + 2) (by omega) (v := .string (F2 k)) (by rw [show k * 4 + 1 + 1 = k * 4 + 2 from rfl]; exact flat_at _ _ _ _ (by omega))).put (j := k * 4 + 3) (by omega) (v := .slice (some ⟨g1, 0, none⟩) (N k) (N k)) (by rw [show k * 4 + 1 + 1 + 1 = k * 4 + 3 from rfl]; rw [flat_at _ _ _ _ (by omega)]; show (.slice (some ⟨upd G k g1 k, 0, none⟩) (N k) (N k) : Value) = _; rw [upd_at])).upto (by omega), fun j hj => ?_⟩
        have h := HW1.out j hj
        exact ⟨h.1, row_set_other (row_set_other (row_set_other (row_set_other h.2 (by simp; omega)) (by simp; omega)) (by simp; omega)) (by simp; omega)⟩
      case measure => simp [intOf]; omega
    · obtain rfl : k = n := by omega
      go_wp2
      go_ret
      exact ⟨G, rfl, ⟨hpart.whole, fun i hi => (HW.out i hi).2⟩, hbel⟩

set_option maxHeartbeats 400000 in
theorem toVersionS_nil (ad : Option Addr) (c : Nat) (F0 F1 : Nat → Int) (F2 : Nat → ByteArray) (N : Nat → Nat) (Y : Nat → Nat → ByteArray) (V : Nat → Nat → Int) (w : World) :
    Calls Try.prog 46 #[.slice ad 0 c] w (ToVersionPost 0 F0 F1 F2 N Y V w) := by
  have hmk : ∀ W : World, (Instr.makeSlice 71 (.int .i64 0) (.int .i64 0)).run Try.prog W = .ok (.slice (some ⟨W.heap.size, 0, none⟩) 0 0) (W.alloc (.cells #[] 138)) := fun _ => by kernel_rfl
  go_enter Try.func46, Try.ntmps46
  go_wp2
  clear hmk
  go_loopw [4] (fun i wr => i = .int .i64 0 ∧ wr = w.alloc (.cells #[] 138)) (fun _ _ => 0)
  case atStart => exact ⟨rfl, rfl⟩
  case round =>
    obtain ⟨rfl, rfl⟩ := hrel
    go_wp2
    go_ret
    exact ⟨fun _ => 0, rfl, ⟨by simpa using World.rowIs_alloc w #[] 138 _ (fun i hi => absurd hi (by simp)), fun i hi => absurd hi (by omega)⟩, below_new _ _⟩

set_option maxHeartbeats 1000000 in
theorem eqVersion_any (x0 x1 : Int) (x2 : ByteArray) (g1 g2 nn : Nat) (y : Nat → ByteArray) (v : Nat → Int) (w : World) (hn : nn ≤ 1048576) (r1 : w.rowIs g1 143 (nn * 2) (flat 2 (rowSetting y v))) (r2 : w.rowIs g2 143 (nn * 2) (flat 2 (rowSetting y v))) :
    Calls Try.prog 111 #[.agg #[.int .i64 x0, .int .i64 x1, .string x2, .slice (some ⟨g1, 0, none⟩) nn nn], .agg #[.int .i64 x0, .int .i64 x1, .string x2, .slice (some ⟨g2, 0, none⟩) nn nn]] w fun e w' => e = .returned (.bool true) ∧ Below w.heap.size w w' := by
  have R1 := Lib.hid ((r1.alloc (.cells #[.int .i64 x0, .int .i64 x1, .string x2, .slice (some ⟨g1, 0, none⟩) nn nn] 138)).alloc (.cells #[.int .i64 x0, .int .i64 x1, .string x2, .slice (some ⟨g2, 0, none⟩) nn nn] 138))
  have R2 := Lib.hid ((r2.alloc (.cells #[.int .i64 x0, .int .i64 x1, .string x2, .slice (some ⟨g1, 0, none⟩) nn nn] 138)).alloc (.cells #[.int .i64 x0, .int .i64 x1, .string x2, .slice (some ⟨g2, 0, none⟩) nn nn] 138))
  clear r1 r2
  go_enter Try.func111, Try.ntmps111
  go_wp2_with fail
  refine (eqSettingS_any g1 g2 nn y v _ _ _ hn R1.out R2.out).mono ?_
  rintro e w1 ⟨rfl, hb⟩
  have C1 := ((below_new w (.cells #[.int .i64 x0, .int .i64 x1, .string x2, .slice (some ⟨g1, 0, none⟩) nn nn] 138)).alloc (by simp) (.cells #[.int .i64 x0, .int .i64 x1, .string x2, .slice (some ⟨g2, 0, none⟩) nn nn] 138)).trans (hb.mono (by simp; omega))
  go_wp2
  go_ret
  exact ⟨rfl, C1⟩

set_option maxHeartbeats 2000000 in
theorem eqVersionS_any (g1 g2 n : Nat) (F0 F1 : Nat → Int) (F2 : Nat → ByteArray) (G1 G2 N : Nat → Nat) (Y : Nat → Nat → ByteArray) (V : Nat → Nat → Int) (w : World) (hn : n ≤ 1048576) (hN : ∀ i, i < n → N i ≤ 1048576) (h1 : DpVersion w g1 n F0 F1 F2 G1 N Y V) (h2 : DpVersion w g2 n F0 F1 F2 G2 N Y V) :
    Calls Try.prog 48 #[.slice (some ⟨g1, 0, none⟩) n n, .slice (some ⟨g2, 0, none⟩) n n] w fun e w' => e = .returned (.bool true) ∧ Below w.heap.size w w' := by
  have hl1 := h1.1.lt
  have hl2 := h2.1.lt
  have H1 := Lib.hid h1
  have H2 := Lib.hid h2
  have HN := Lib.hid hN
  clear h1 h2 hN
  go_enter Try.func48, Try.ntmps48
  go_wp2
  go_loopw [5] (fun i wr => ∃ (k : Nat), k ≤ n ∧ i = .int .i64 k ∧ Below w.heap.size w wr) (fun i _ => n - (intOf i).toNat)
  case atStart => exact ⟨0, Nat.zero_le _, rfl, Below.refl _ _⟩
  case round =>
    obtain ⟨k, hk, rfl, hbel⟩ := hrel
    by_cases hlt : k < n
    · have hlti : (k : Int) < (n : Int) := by omega
      have hki : (0 : Int) ≤ (k : Int) := by omega
      have D1 := H1.out.below hbel
      have D2 := H2.out.below hbel
      obtain ⟨c0, c1, c2, c3⟩ := D1.at k hlt
      obtain ⟨d0, d1, d2, d3⟩ := D2.at k hlt
      have hg1 : g1 < wr.heap.size := D1.1.lt
      have hg2 : g2 < wr.heap.size := D2.1.lt
      have HQ1 := Lib.hid (D1.2 k hlt)
      have HQ2 := Lib.hid (D2.2 k hlt)
      have hnk := HN.out k hlt
      clear D1 D2
      have cy0 := Ext.cell (W := wr) (b := g1) (o := k * 4) (u := .int .i64 (F0 k)) c0 hg1
      have cy1 := Ext.cell (W := wr) (b := g1) (o := k * 4 + 1) (u := .int .i64 (F1 k)) c1 hg1
      have cy2 := Ext.cell (W := wr) (b := g1) (o := k * 4 + 2) (u := .string (F2 k)) c2 hg1
      have cy3 := Ext.cell (W := wr) (b := g1) (o := k * 4 + 3) (u := .slice (some ⟨G1 k, 0, none⟩) (N k) (N k)) c3 hg1
      have dy0 := Ext.cell (W := wr) (b := g2) (o := k * 4) (u := .int .i64 (F0 k)) d0 hg2
      have dy1 := Ext.cell (W := wr) (b := g2) (o := k * 4 + 1) (u := .int .i64 (F1 k)) d1 hg2
      have dy2 := Ext.cell (W := wr) (b := g2) (o := k * 4 + 2) (u := .string (F2 k)) d2 hg2
      have dy3 := Ext.cell (W := wr) (b := g2) (o := k * 4 + 3) (u := .slice (some ⟨G2 k, 0, none⟩) (N k) (N k)) d3 hg2
      go_wp2
      refine wp_region_ext (by kernel_rfl) (by kernel_rfl) ?_
      repeat (go_big_quiet_step ((go_at_call 111; exact ext_call (eqVersion_any _ _ _ _ _ _ (Y k) (V k) _ hnk (row_below HQ1.out (Ext.h _) HQ1.out.lt) (row_below HQ2.out (Ext.h _) HQ2.out.lt)))))
      refine wpQuiet_nil ?_
      intro W1 hx
      obtain ⟨x, hx⟩ := hx
      have hW1 := x.h
      rw [← hx] at hW1
      have hB := hbel.trans (hW1.mono hbel.size)
      clear hx x hW1 cy0 c0 cy1 c1 cy2 c2 cy3 c3 dy0 d0 dy1 d1 dy2 d2 dy3 d3
      go_wp2
      go_roundw
      case rel => exact ⟨k + 1, by omega, by go_num, hB⟩
      case measure => simp [intOf]; omega
    · go_wp2
      go_ret
      exact ⟨rfl, hbel⟩

/-- A slice of versions that came in. -/
def InVersion (w : World) (a : Option Addr) (n : Nat) (F0 F1 : Nat → Int) (F2 : Nat → ByteArray) (A : Nat → Option Addr) (N C : Nat → Nat) (Y : Nat → Nat → ByteArray) (V : Nat → Nat → Int) : Prop := (n = 0 ∨ ∃ b off, a = some ⟨b, off, none⟩ ∧ b < w.heap.size ∧ n ≤ maxLen ∧ RdVersion w b off n F0 F1 F2 A N C) ∧ (∀ i, i < n → (F2 i).size ≤ maxLen) ∧ ∀ i, i < n → InSetting w (A i) (N i) (Y i) (V i)

theorem InVersion.below {w w' : World} {a : Option Addr} {n : Nat} {F0 F1 : Nat → Int} {F2 : Nat → ByteArray} {A : Nat → Option Addr} {N C : Nat → Nat} {Y : Nat → Nat → ByteArray} {V : Nat → Nat → Int} (h : InVersion w a n F0 F1 F2 A N C Y V) (hb : Below w.heap.size w w') : InVersion w' a n F0 F1 F2 A N C Y V := by
  obtain ⟨h1, h2, h3⟩ := h
  refine ⟨?_, h2, fun i hi => (h3 i hi).below hb⟩
  rcases h1 with h1 | ⟨b, off, rfl, hbl, hn, hr⟩
  · exact .inl h1
  · refine .inr ⟨b, off, rfl, Nat.lt_of_lt_of_le hbl hb.size, hn, fun i hi => ?_⟩
    have hc := bcell hb
    obtain ⟨c0, c1, c2, c3⟩ := hr i hi
    exact ⟨(hc _ _ hbl).trans c0, (hc _ _ hbl).trans c1, (hc _ _ hbl).trans c2, (hc _ _ hbl).trans c3⟩

theorem szVersionS_in (a : Option Addr) (n c : Nat) (F0 F1 : Nat → Int) (F2 : Nat → ByteArray) (A : Nat → Option Addr) (N C : Nat → Nat) (Y : Nat → Nat → ByteArray) (V : Nat → Nat → Int) (left : Int) (w : World) (h : InVersion w a n F0 F1 F2 A N C Y V) (hl0 : 0 ≤ left) (hl1 : left ≤ 1048576) :
    Calls Try.prog 44 #[.slice a n c, .int .i64 left] w (SzV n N left w) := by
  obtain ⟨h1, h2, h3⟩ := h
  rcases h1 with rfl | ⟨b, off, rfl, hbl, hn, hr⟩
  · exact szVersionS_nil a c N left w hl0 hl1
  · exact szVersionS_any b off n c F0 F1 F2 A N C Y V left w hbl hn hl0 hl1 hr h2 h3

theorem toVersionS_in (a : Option Addr) (n c : Nat) (F0 F1 : Nat → Int) (F2 : Nat → ByteArray) (A : Nat → Option Addr) (N C : Nat → Nat) (Y : Nat → Nat → ByteArray) (V : Nat → Nat → Int) (w : World) (h : InVersion w a n F0 F1 F2 A N C Y V) (hm : n ≤ 1048576) (hN : ∀ i, i < n → N i ≤ 1048576) :
    Calls Try.prog 46 #[.slice a n c] w (ToVersionPost n F0 F1 F2 N Y V w) := by
  obtain ⟨h1, h2, h3⟩ := h
  rcases h1 with rfl | ⟨b, off, rfl, hbl, hn, hr⟩
  · exact toVersionS_nil a c F0 F1 F2 N Y V w
  · exact toVersionS_any b off n c F0 F1 F2 A N C Y V w hbl hm hr h3 hN

theorem settings_is {H : Type} {enc : TypeId × Value → H} {w : World} {base : Nat} {spare : Nat → Bool} {held : Bool} {v : Value} (h : ∃ k y, DataW.trod enc Try.prog w base spare held k 133 [v] = some y) : ∃ p : Option Addr × Nat × Nat × (Nat → ByteArray) × (Nat → Int), v = .slice p.1 p.2.1 p.2.2.1 ∧ InSetting w p.1 p.2.1 p.2.2.2.1 p.2.2.2.2 := by
  obtain ⟨k, y, hy⟩ := h
  have hy2 := hy
  rcases open_slice Try.underlying133 hy with ⟨hcs, _⟩ | ⟨ad, len, cap, m, k2, D, Pl, hcs, _⟩
  · simp at hcs
    subst hcs
    obtain ⟨z, z2, hz⟩ := inSetting_of hy2
    exact ⟨⟨_, _, _, z, z2⟩, rfl, hz⟩
  · simp at hcs
    subst hcs
    obtain ⟨z, z2, hz⟩ := inSetting_of hy2
    exact ⟨⟨_, _, _, z, z2⟩, rfl, hz⟩

theorem inVersion_of {H : Type} {enc : TypeId × Value → H} {w : World} {base : Nat} {spare : Nat → Bool} {held : Bool} {fuel n c : Nat} {a : Option Addr} {x : DataW H × List MemPlace}
    (h : DataW.trod enc Try.prog w base spare held fuel 68 [.slice a n c] = some x) : ∃ F0 F1 F2 A N C Y V, InVersion w a n F0 F1 F2 A N C Y V := by
  rcases rows_of (fs := _) Try.underlying68 (Try.underlying135) (by kernel_rfl) (by kernel_rfl) (by decide) h with h0 | ⟨b, off, rfl, hbl, hn, hr⟩
  · subst h0
    exact ⟨fun _ => 0, fun _ => 0, fun _ => ByteArray.empty, fun _ => none, fun _ => 0, fun _ => 0, fun _ _ => ByteArray.empty, fun _ _ => 0, .inl rfl, fun i hi => absurd hi (by omega), fun i hi => absurd hi (by omega)⟩
  · have hq : ∀ i, ∃ p : Option Addr × Nat × Nat × (Nat → ByteArray) × (Nat → Int), i < n → (w.cell? ⟨b, off + i * 4 + 3, none⟩ = some (.slice p.1 p.2.1 p.2.2.1) ∧ InSetting w p.1 p.2.1 p.2.2.2.1 p.2.2.2.2) := by
      intro i
      by_cases hi : i < n
      · obtain ⟨v3, hv3, hy3⟩ := hr i hi 3 _ rfl
        obtain ⟨p, rfl, hp⟩ := settings_is hy3
        exact ⟨p, fun _ => ⟨hv3, hp⟩⟩
      · exact ⟨⟨none, 0, 0, fun _ => ByteArray.empty, fun _ => 0⟩, fun h => absurd h hi⟩
    obtain ⟨f, hf⟩ := Classical.axiomOfChoice hq
    have key : ∀ i, i < n → (w.cell? ⟨b, off + i * 4 + 2, none⟩ = some (.string (strAt (w.cell? ⟨b, off + i * 4 + 2, none⟩))) ∧ (strAt (w.cell? ⟨b, off + i * 4 + 2, none⟩)).size ≤ maxLen) ∧ (w.cell? ⟨b, off + i * 4, none⟩ = some (.int .i64 (intAt (w.cell? ⟨b, off + i * 4, none⟩)))) ∧ (w.cell? ⟨b, off + i * 4 + 1, none⟩ = some (.int .i64 (intAt (w.cell? ⟨b, off + i * 4 + 1, none⟩)))) := by
      intro i hi
      obtain ⟨v0, hv0, hy0⟩ := hr i hi 0 _ rfl
      obtain ⟨v1, hv1, hy1⟩ := hr i hi 1 _ rfl
      obtain ⟨v2, hv2, hy2⟩ := hr i hi 2 _ rfl
      exact ⟨string_of Try.underlying9 hv2 hy2, (int_of Try.underlying2 hv0 hy0).1, (int_of Try.underlying2 hv1 hy1).1⟩
    exact ⟨fun i => intAt (w.cell? ⟨b, off + i * 4, none⟩), fun i => intAt (w.cell? ⟨b, off + i * 4 + 1, none⟩), fun i => strAt (w.cell? ⟨b, off + i * 4 + 2, none⟩), fun i => (f i).1, fun i => (f i).2.1, fun i => (f i).2.2.1, fun i => (f i).2.2.2.1, fun i => (f i).2.2.2.2, .inr ⟨b, off, rfl, hbl, hn, fun i hi => ⟨(key i hi).2.1, (key i hi).2.2, (key i hi).1.1, (hf i hi).1⟩⟩, fun i hi => (key i hi).1.2, fun i hi => (hf i hi).2⟩
end Go.Proofs.Ytllmillhdmknpaa
