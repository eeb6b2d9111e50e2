/- The contracts of the helpers of the type Version: the measure of size, the copy, the comparison of a copy with a copy. -/
import Derived.Test.YtllmillhdmknpaaSmall
import Derived.Deep.RegionHeld3
import Derived.Deep.DrawnRows
import Derived.Test.YtllmillhdmknpaaSettingI
namespace Go.Proofs.Ytllmillhdmknpaa
open Go.RowKit
attribute [local go_sem ↓] Go.wp_at_zero Go.wp_at_succ
/-- The cells of a row of versions: each with a slice of its own. -/
def rowVersion (F0 F1 : Nat → Int) (F2 : Nat → ByteArray) (G N : Nat → Nat) (i j : Nat) : Value := match j with | 0 => .int .i64 (F0 i) | 1 => .int .i64 (F1 i) | 2 => .string (F2 i) | _ => .slice (some ⟨G i, 0, none⟩) (N i) (N i)

/-- A slice of versions that came in can be read. -/
def RdVersion (w : World) (b off n : Nat) (F0 F1 : Nat → Int) (F2 : Nat → ByteArray) (A : Nat → Option Addr) (N C : Nat → Nat) : Prop := ∀ i, i < n → w.cell? ⟨b, off + i * 4, none⟩ = some (.int .i64 (F0 i)) ∧ w.cell? ⟨b, off + i * 4 + 1, none⟩ = some (.int .i64 (F1 i)) ∧ w.cell? ⟨b, off + i * 4 + 2, none⟩ = some (.string (F2 i)) ∧ w.cell? ⟨b, off + i * 4 + 3, none⟩ = some (.slice (A i) (N i) (C i))

/-- A list of versions that the call holds. -/
def DpVersion (w : World) (g n : Nat) (F0 F1 : Nat → Int) (F2 : Nat → ByteArray) (G N : Nat → Nat) (Y : Nat → Nat → ByteArray) (V : Nat → Nat → Int) : Prop := w.rowIs g 138 (n * 4) (flat 4 (rowVersion F0 F1 F2 G N)) ∧ ∀ i, i < n → w.rowIs (G i) 143 (N i * 2) (flat 2 (rowSetting (Y i) (V i)))

theorem DpVersion.below {w w' : World} {g n : Nat} {F0 F1 : Nat → Int} {F2 : Nat → ByteArray} {G N : Nat → Nat} {Y : Nat → Nat → ByteArray} {V : Nat → Nat → Int} (h : DpVersion w g n F0 F1 F2 G N Y V) (hb : Below w.heap.size w w') : DpVersion w' g n F0 F1 F2 G N Y V :=
  ⟨row_below h.1 hb h.1.lt, fun i hi => row_below (h.2 i hi) hb (h.2 i hi).lt⟩

theorem DpVersion.at {w : World} {g n : Nat} {F0 F1 : Nat → Int} {F2 : Nat → ByteArray} {G N : Nat → Nat} {Y : Nat → Nat → ByteArray} {V : Nat → Nat → Int} (h : DpVersion w g n F0 F1 F2 G N Y V) (i : Nat) (hi : i < n) : w.cell? ⟨g, i * 4, none⟩ = some (.int .i64 (F0 i)) ∧ w.cell? ⟨g, i * 4 + 1, none⟩ = some (.int .i64 (F1 i)) ∧ w.cell? ⟨g, i * 4 + 2, none⟩ = some (.string (F2 i)) ∧ w.cell? ⟨g, i * 4 + 3, none⟩ = some (.slice (some ⟨G i, 0, none⟩) (N i) (N i)) := by
  refine ⟨?_, ?_, ?_, ?_⟩
  · have e := h.1.cell (i := i * 4) (by omega); rw [flat_at0 _ _ _ (by omega)] at e; simpa [rowVersion] using e
  · have e := h.1.cell (i := i * 4 + 1) (by omega); rw [flat_at _ _ _ _ (by omega)] at e; simpa [rowVersion] using e
  · have e := h.1.cell (i := i * 4 + 2) (by omega); rw [flat_at _ _ _ _ (by omega)] at e; simpa [rowVersion] using e
  · have e := h.1.cell (i := i * 4 + 3) (by omega); rw [flat_at _ _ _ _ (by omega)] at e; simpa [rowVersion] using e

/-- What a measure of size hands back, with so much left. -/
def SzL (n : Nat) (left : Int) (w : World) (e : Ending) (w' : World) : Prop := ∃ r : Int, (r < 0 ∨ (0 ≤ r ∧ r ≤ left ∧ n ≤ 1048576)) ∧ e = .returned (.int .i64 r) ∧ Below w.heap.size w w'

set_option maxHeartbeats 1000000 in
theorem szSettingS_l (a : Option Addr) (n c : Nat) (y : Nat → ByteArray) (v : Nat → Int) (left : Int) (w : World) (h : InSetting w a n y v) (hl0 : 0 ≤ left) (hl1 : left ≤ 1048576) :
    Calls Try.prog 149 #[.slice a n c, .int .i64 left] w (SzL n left w) := by
  obtain ⟨h1, hS0, _⟩ := h
  rcases h1 with rfl | ⟨b, off, rfl, hb, hn, hr⟩
  · go_enter Try.func149, Try.ntmps149
    go_wp2
    go_loopw [1, 5] (fun l i wr => i = .int .i64 0 ∧ l = .int .i64 left ∧ w = wr) (fun _ _ _ => 0)
    case atStart => exact ⟨rfl, rfl, rfl⟩
    case round =>
      obtain ⟨rfl, rfl, rfl⟩ := hrel
      go_wp2
      go_ret
      exact ⟨left, .inr ⟨hl0, by omega, by omega⟩, rfl, Below.refl _ _⟩
  · unfold maxLen at hn
    by_cases h0 : (n : Int) ≤ left
    case neg =>
      have h2 : left < (n : Int) := by omega
      go_enter Try.func149, Try.ntmps149
      go_wp2
      go_ret
      exact ⟨-1, .inl (by decide), rfl, Below.refl _ _⟩
    have HR := Lib.hid hr
    have HS0 := Lib.hid hS0
    clear hr hS0
    go_enter Try.func149, Try.ntmps149
    go_wp2
    go_loopw [1, 5] (fun l i wr => ∃ (k : Nat) (z : Int), k ≤ n ∧ i = .int .i64 k ∧ l = .int .i64 z ∧ 0 ≤ z ∧ z ≤ left ∧ Below w.heap.size w wr) (fun _ i _ => n - (intOf i).toNat)
    case atStart => exact ⟨0, _, Nat.zero_le _, rfl, rfl, by omega, by omega, Below.refl _ _⟩
    case round =>
      obtain ⟨k, z, hk, rfl, rfl, hz0, hz1, hbel⟩ := hrel
      by_cases hlt : k < n
      · obtain ⟨c0, c1⟩ := HR.out k hlt
        have hsk0 := HS0.out k hlt
        have hbc := bcell hbel
        rw [← hbc _ _ hb] at c0 c1
        clear hbc
        by_cases hsz : ((y k).size : Int) ≤ z
        · go_wp2_with (go_at_call 169; refine (szSetting_yes _ _ _ _ hsz (by omega)).mono ?_; rintro e w' ⟨rfl, rfl⟩)
          go_roundw
          case rel => exact ⟨k + 1, _, by omega, by go_num, rfl, by omega, by omega, hbel.alloc hbel.size _⟩
          case measure => simp [intOf]; omega
        · have hsz2 : z < ((y k).size : Int) := by omega
          go_wp2_with (go_at_call 169; refine (szSetting_no _ _ _ _ hsk0 hsz2 (by omega) hz0).mono ?_; rintro e w' ⟨rfl, rfl⟩)
          go_ret
          exact ⟨-1, .inl (by decide), rfl, hbel.alloc hbel.size _⟩
      · obtain rfl : k = n := by omega
        go_wp2
        go_ret
        exact ⟨z, .inr ⟨hz0, by omega, by omega⟩, rfl, hbel⟩

set_option maxHeartbeats 1000000 in
theorem szVersion_l (x0 x1 : Int) (x2 : ByteArray) (a : Option Addr) (nn c : Nat) (y : Nat → ByteArray) (v : Nat → Int) (left : Int) (w : World) (hs : x2.size ≤ 9223372036854775807) (h : InSetting w a nn y v) (hl0 : 0 ≤ left) (hl1 : left ≤ 1048576) :
    Calls Try.prog 105 #[.agg #[.int .i64 x0, .int .i64 x1, .string x2, .slice a nn c], .int .i64 left] w (SzL nn left w) := by
  by_cases h1 : (x2.size : Int) ≤ left
  case neg =>
    have h2 : left < (x2.size : Int) := by omega
    go_enter Try.func105, Try.ntmps105
    go_wp2
    go_ret
    exact ⟨-1, .inl (by decide), rfl, below_new _ _⟩
  have HI := Lib.hid (h.below (below_new w (.cells #[.int .i64 x0, .int .i64 x1, .string x2, .slice a nn c] 135)))
  clear h
  go_enter Try.func105, Try.ntmps105
  go_wp2_with fail
  refine (szSettingS_l a nn c y v _ _ HI.out (by omega) (by omega)).mono ?_
  rintro e w1 ⟨r, hr, rfl, hb⟩
  have C1 := (below_new w (.cells #[.int .i64 x0, .int .i64 x1, .string x2, .slice a nn c] 135)).trans (hb.mono (by simp))
  rcases hr with hr | ⟨hr0, hr1, hr2⟩
  · go_wp2
    go_ret
    exact ⟨-1, .inl (by decide), rfl, C1⟩
  · go_wp2
    go_ret
    exact ⟨r, .inr ⟨hr0, by omega, hr2⟩, rfl, C1⟩

/-- What the measure of size hands back. -/
def SzV (n : Nat) (N : Nat → Nat) (left : Int) (w : World) (e : Ending) (w' : World) : Prop := ∃ r : Int, (r < 0 ∨ (0 ≤ r ∧ r ≤ left ∧ n ≤ 1048576 ∧ ∀ i, i < n → N i ≤ 1048576)) ∧ e = .returned (.int .i64 r) ∧ Below w.heap.size w w'

set_option maxHeartbeats 1000000 in
theorem szVersionS_any (b off n c : Nat) (F0 F1 : Nat → Int) (F2 : Nat → ByteArray) (A : Nat → Option Addr) (N C : Nat → Nat) (Y : Nat → Nat → ByteArray) (V : Nat → Nat → Int) (left : Int) (w : World) (hb : b < w.heap.size) (hn : n ≤ maxLen) (hl0 : 0 ≤ left) (hl1 : left ≤ 1048576) (hr : RdVersion w b off n F0 F1 F2 A N C) (hS0 : ∀ i, i < n → (F2 i).size ≤ maxLen) (hI : ∀ i, i < n → InSetting w (A i) (N i) (Y i) (V i)) :
    Calls Try.prog 44 #[.slice (some ⟨b, off, none⟩) n c, .int .i64 left] w (SzV n N left w) := by
  unfold maxLen at hn
  by_cases h0 : (n : Int) ≤ left
  case neg =>
    have h2 : left < (n : Int) := by omega
    go_enter Try.func44, Try.ntmps44
    go_wp2
    go_ret
    exact ⟨-1, .inl (by decide), rfl, Below.refl _ _⟩
  have HR := Lib.hid hr
  have HS0 := Lib.hid hS0
  have HI := Lib.hid hI
  clear hr hS0 hI
  go_enter Try.func44, Try.ntmps44
  go_wp2
  go_loopw [1, 5] (fun l i wr => ∃ (k : Nat) (z : Int), k ≤ n ∧ i = .int .i64 k ∧ l = .int .i64 z ∧ 0 ≤ z ∧ z ≤ left ∧ (∀ j, j < k → N j ≤ 1048576) ∧ Below w.heap.size w wr) (fun _ i _ => n - (intOf i).toNat)
  case atStart => exact ⟨0, _, Nat.zero_le _, rfl, rfl, by omega, by omega, fun j hj => absurd hj (by omega), Below.refl _ _⟩
  case round =>
    obtain ⟨k, z, hk, rfl, rfl, hz0, hz1, hj, hbel⟩ := hrel
    have HJ := Lib.hid hj
    clear hj
    by_cases hlt : k < n
    · obtain ⟨c0, c1, c2, c3⟩ := HR.out k hlt
      have hsk := HS0.out k hlt
      unfold maxLen at hsk
      have hbc := bcell hbel
      rw [← hbc _ _ hb] at c0 c1 c2 c3
      clear hbc
      have HIk := Lib.hid ((HI.out k hlt).below hbel)
      go_wp2_with fail
      refine (szVersion_l _ _ _ _ _ _ (Y k) (V k) _ _ hsk HIk.out hz0 (by omega)).mono ?_
      rintro e w1 ⟨r, hr, rfl, hb1⟩
      have C1 := hbel.trans (hb1.mono hbel.size)
      clear c0 c1 c2 c3 HIk
      rcases hr with hr | ⟨hr0, hr1, hr2⟩
      · go_wp2
        go_ret
        exact ⟨-1, .inl (by decide), rfl, C1⟩
      · have HJ2 := Lib.hid (show ∀ j, j < k + 1 → N j ≤ 1048576 from fun j hj => if e : j = k then by rw [e]; exact hr2 else HJ.out j (by omega))
        go_wp2
        go_roundw
        case rel => exact ⟨k + 1, _, by omega, by go_num, rfl, by omega, by omega, HJ2.out, C1⟩
        case measure => simp [intOf]; omega
    · obtain rfl : k = n := by omega
      go_wp2
      go_ret
      exact ⟨z, .inr ⟨hz0, by omega, by omega, HJ.out⟩, rfl, hbel⟩

set_option maxHeartbeats 400000 in
theorem szVersionS_nil (ad : Option Addr) (c : Nat) (N : Nat → Nat) (left : Int) (w : World) (hl0 : 0 ≤ left) (hl1 : left ≤ 1048576) :
    Calls Try.prog 44 #[.slice ad 0 c, .int .i64 left] w (SzV 0 N left w) := by
  go_enter Try.func44, Try.ntmps44
  go_wp2
  go_loopw [1, 5] (fun l i wr => i = .int .i64 0 ∧ l = .int .i64 left ∧ w = wr) (fun _ _ _ => 0)
  case atStart => exact ⟨rfl, rfl, rfl⟩
  case round =>
    obtain ⟨rfl, rfl, rfl⟩ := hrel
    go_wp2
    go_ret
    exact ⟨left, .inr ⟨hl0, by omega, by decide, fun i hi => absurd hi (by omega)⟩, rfl, Below.refl _ _⟩

theorem row_set_other {w : World} {g b o n : Nat} {t : TypeId} {f : Nat → Value} {v : Value} (h : w.rowIs g t n f) (hne : b ≠ g) : (w.setCell ⟨b, o, none⟩ v).rowIs g t n f :=
  h.of_block (by simp [World.setCell, Array.getElem?_modify, hne])

set_option maxHeartbeats 2000000 in
theorem toVersion_any (x0 x1 : Int) (x2 : ByteArray) (a : Option Addr) (nn c : Nat) (y : Nat → ByteArray) (v : Nat → Int) (w : World) (hi : InSetting w a nn y v) (hm : nn ≤ 1048576) :
    Calls Try.prog 107 #[.agg #[.int .i64 x0, .int .i64 x1, .string x2, .slice a nn c]] w fun e w' => ∃ g1, e = .returned (.agg #[.int .i64 x0, .int .i64 x1, .string x2, .slice (some ⟨g1, 0, none⟩) nn nn]) ∧ w.heap.size ≤ g1 ∧ w'.rowIs g1 143 (nn * 2) (flat 2 (rowSetting y v)) ∧ Below w.heap.size w w' := by
  have HI := Lib.hid (hi.below (((below_new w (.cells #[.int .i64 x0, .int .i64 x1, .string x2, .slice a nn c] 135)).alloc (by simp) (.cells #[.int .i64 0, .int .i64 0, .string ⟨#[]⟩, .slice none 0 0] 138)).alloc (by simp; omega) (.cells #[.int .i64 x0, .int .i64 x1, .string x2, .slice none 0 0] 138)))
  clear hi
  go_enter Try.func107, Try.ntmps107
  go_wp2_with fail
  refine (toSettingS_in a nn c y v _ HI.out hm).mono ?_
  rintro e w1 ⟨rfl, R1, hb1⟩
  have hs0 : (((w.alloc (.cells #[.int .i64 x0, .int .i64 x1, .string x2, .slice a nn c] 135)).alloc (.cells #[.int .i64 0, .int .i64 0, .string ⟨#[]⟩, .slice none 0 0] 138)).alloc (.cells #[.int .i64 x0, .int .i64 x1, .string x2, .slice none 0 0] 138)).heap.size = w.heap.size + 3 := by simp
  rw [hs0] at R1
  have C1 := (((below_new w (.cells #[.int .i64 x0, .int .i64 x1, .string x2, .slice a nn c] 135)).alloc (by simp) (.cells #[.int .i64 0, .int .i64 0, .string ⟨#[]⟩, .slice none 0 0] 138)).alloc (by simp; omega) (.cells #[.int .i64 x0, .int .i64 x1, .string x2, .slice none 0 0] 138)).trans (hb1.mono (by simp; omega))
  have hs1 := R1.lt
  have HR := Lib.hid R1
  clear R1 hs0
  have b0 : w1.cell? ⟨w.heap.size + 1, 0, none⟩ = some (.int .i64 0) := (bcell hb1 _ _ (by simp)).trans (by go_simp)
  have b1 : w1.cell? ⟨w.heap.size + 1, 1, none⟩ = some (.int .i64 0) := (bcell hb1 _ _ (by simp)).trans (by go_simp)
  have b2 : w1.cell? ⟨w.heap.size + 1, 2, none⟩ = some (.string ⟨#[]⟩) := (bcell hb1 _ _ (by simp)).trans (by go_simp)
  have b3 : w1.cell? ⟨w.heap.size + 1, 3, none⟩ = some (.slice none 0 0) := (bcell hb1 _ _ (by simp)).trans (by go_simp)
  have d0 : w1.cell? ⟨w.heap.size + 2, 0, none⟩ = some (.int .i64 x0) := (bcell hb1 _ _ (by simp)).trans (by go_simp)
  have d1 : w1.cell? ⟨w.heap.size + 2, 1, none⟩ = some (.int .i64 x1) := (bcell hb1 _ _ (by simp)).trans (by go_simp)
  have d2 : w1.cell? ⟨w.heap.size + 2, 2, none⟩ = some (.string x2) := (bcell hb1 _ _ (by simp)).trans (by go_simp)
  have d3 : w1.cell? ⟨w.heap.size + 2, 3, none⟩ = some (.slice none 0 0) := (bcell hb1 _ _ (by simp)).trans (by go_simp)
  have f0 : w1.frozen? ⟨w.heap.size + 1, 0, none⟩ = false := (hb1.frozen (p := ⟨w.heap.size + 1, 0, none⟩) (by simp)).trans (by go_simp)
  have f1 : w1.frozen? ⟨w.heap.size + 1, 1, none⟩ = false := (hb1.frozen (p := ⟨w.heap.size + 1, 1, none⟩) (by simp)).trans (by go_simp)
  have f2 : w1.frozen? ⟨w.heap.size + 1, 2, none⟩ = false := (hb1.frozen (p := ⟨w.heap.size + 1, 2, none⟩) (by simp)).trans (by go_simp)
  have f3 : w1.frozen? ⟨w.heap.size + 1, 3, none⟩ = false := (hb1.frozen (p := ⟨w.heap.size + 1, 3, none⟩) (by simp)).trans (by go_simp)
  have k0 : w1.frozen? ⟨w.heap.size + 2, 0, none⟩ = false := (hb1.frozen (p := ⟨w.heap.size + 2, 0, none⟩) (by simp)).trans (by go_simp)
  have k1 : w1.frozen? ⟨w.heap.size + 2, 1, none⟩ = false := (hb1.frozen (p := ⟨w.heap.size + 2, 1, none⟩) (by simp)).trans (by go_simp)
  have k2 : w1.frozen? ⟨w.heap.size + 2, 2, none⟩ = false := (hb1.frozen (p := ⟨w.heap.size + 2, 2, none⟩) (by simp)).trans (by go_simp)
  have k3 : w1.frozen? ⟨w.heap.size + 2, 3, none⟩ = false := (hb1.frozen (p := ⟨w.heap.size + 2, 3, none⟩) (by simp)).trans (by go_simp)
  clear hb1
  go_wp2
  refine bodyPost_ret (v := .agg #[.int .i64 x0, .int .i64 x1, .string x2, .slice (some ⟨w.heap.size + 3, 0, none⟩) nn nn]) (by simp [results, Try.results107, go_sem, b0, b1, b2, b3]) rfl ⟨_, rfl, by omega, ?_, ?_⟩
  · exact row_set_other (row_set_other (row_set_other (row_set_other (row_set_other HR.out (by simp)) (by simp)) (by simp)) (by simp)) (by simp)
  · exact ((((C1.setCell (by first | (simp; done) | (simp; omega)) _).setCell (by first | (simp; done) | (simp; omega)) _).setCell (by first | (simp; done) | (simp; omega)) _).setCell (by first | (simp; done) | (simp; omega)) _).setCell (by first | (simp; done) | (simp; omega)) _
end Go.Proofs.Ytllmillhdmknpaa
