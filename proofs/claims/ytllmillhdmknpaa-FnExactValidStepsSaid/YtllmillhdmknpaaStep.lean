/- The contracts of the helpers of the type Step: the measure of size, the copy, the comparison of a copy with a copy. -/
import Derived.Test.YtllmillhdmknpaaSmall
import Derived.Deep.RegionHeld3
import Derived.Deep.DrawnRows
import Derived.Test.YtllmillhdmknpaaInts
namespace Go.Proofs.Ytllmillhdmknpaa
open Go.RowKit
attribute [local go_sem ↓] Go.wp_at_zero Go.wp_at_succ
/-- The cells of a row of Steps: each with a slice of its own. -/
def rowStep (F0 : Nat → ByteArray) (F1 F2 : Nat → Int) (G N : Nat → Nat) (i j : Nat) : Value := match j with | 0 => .string (F0 i) | 1 => .int .i64 (F1 i) | 2 => .int .i64 (F2 i) | _ => .slice (some ⟨G i, 0, none⟩) (N i) (N i)

/-- A slice of Steps that came in can be read. -/
def RdStep (w : World) (b off n : Nat) (F0 : Nat → ByteArray) (F1 F2 : Nat → Int) (A : Nat → Option Addr) (N C : Nat → Nat) : Prop := ∀ i, i < n → w.cell? ⟨b, off + i * 4, none⟩ = some (.string (F0 i)) ∧ w.cell? ⟨b, off + i * 4 + 1, none⟩ = some (.int .i64 (F1 i)) ∧ w.cell? ⟨b, off + i * 4 + 2, none⟩ = some (.int .i64 (F2 i)) ∧ w.cell? ⟨b, off + i * 4 + 3, none⟩ = some (.slice (A i) (N i) (C i))

/-- A list of Steps that the call holds: its rows, and the rows of each one's slice. -/
def DpStep (w : World) (g n : Nat) (F0 : Nat → ByteArray) (F1 F2 : Nat → Int) (G N : Nat → Nat) (Z : Nat → Nat → Int) : Prop := w.rowIs g 128 (n * 4) (flat 4 (rowStep F0 F1 F2 G N)) ∧ ∀ i, i < n → w.rowIs (G i) 2 (N i) (rowInts (Z i))

theorem DpStep.below {w w' : World} {g n : Nat} {F0 : Nat → ByteArray} {F1 F2 : Nat → Int} {G N : Nat → Nat} {Z : Nat → Nat → Int} (h : DpStep w g n F0 F1 F2 G N Z) (hb : Below w.heap.size w w') : DpStep w' g n F0 F1 F2 G N Z :=
  ⟨row_below h.1 hb h.1.lt, fun i hi => row_below (h.2 i hi) hb (h.2 i hi).lt⟩

theorem DpStep.at {w : World} {g n : Nat} {F0 : Nat → ByteArray} {F1 F2 : Nat → Int} {G N : Nat → Nat} {Z : Nat → Nat → Int} (h : DpStep w g n F0 F1 F2 G N Z) (i : Nat) (hi : i < n) : w.cell? ⟨g, i * 4, none⟩ = some (.string (F0 i)) ∧ w.cell? ⟨g, i * 4 + 1, none⟩ = some (.int .i64 (F1 i)) ∧ w.cell? ⟨g, i * 4 + 2, none⟩ = some (.int .i64 (F2 i)) ∧ w.cell? ⟨g, i * 4 + 3, none⟩ = some (.slice (some ⟨G i, 0, none⟩) (N i) (N i)) := by
  refine ⟨?_, ?_, ?_, ?_⟩
  · have e := h.1.cell (i := i * 4) (by omega); rw [flat_at0 _ _ _ (by omega)] at e; simpa [rowStep] using e
  · have e := h.1.cell (i := i * 4 + 1) (by omega); rw [flat_at _ _ _ _ (by omega)] at e; simpa [rowStep] using e
  · have e := h.1.cell (i := i * 4 + 2) (by omega); rw [flat_at _ _ _ _ (by omega)] at e; simpa [rowStep] using e
  · have e := h.1.cell (i := i * 4 + 3) (by omega); rw [flat_at _ _ _ _ (by omega)] at e; simpa [rowStep] using e

set_option maxHeartbeats 400000 in
theorem szInt64S_yes (a : Option Addr) (nn c : Nat) (left : Int) (w : World) (h : (nn : Int) ≤ left) (hl : left ≤ 1048576) :
    Calls Try.prog 142 #[.slice a nn c, .int .i64 left] w fun e w' => e = .returned (.int .i64 (left - nn)) ∧ w = w' := by
  go_enter Try.func142, Try.ntmps142
  go_wp2
  go_ret
  exact ⟨rfl, rfl⟩

set_option maxHeartbeats 400000 in
theorem szInt64S_no (a : Option Addr) (nn c : Nat) (left : Int) (w : World) (h : left < (nn : Int)) (hl : left ≤ 1048576) (h0 : 0 ≤ left) (hm : nn ≤ 9223372036854775807) :
    Calls Try.prog 142 #[.slice a nn c, .int .i64 left] w fun e w' => e = .returned (.int .i64 (-1)) ∧ w = w' := by
  go_enter Try.func142, Try.ntmps142
  go_wp2
  go_ret
  exact ⟨rfl, rfl⟩

set_option maxHeartbeats 400000 in
theorem szStep_yes (x0 : ByteArray) (x1 x2 : Int) (a : Option Addr) (nn c : Nat) (left : Int) (w : World) (h : (x0.size : Int) + (nn : Int) ≤ left) (hl : left ≤ 1048576) :
    Calls Try.prog 100 #[.agg #[.string x0, .int .i64 x1, .int .i64 x2, .slice a nn c], .int .i64 left] w fun e w' => e = .returned (.int .i64 (left - x0.size - nn)) ∧ w.alloc (.cells #[.string x0, .int .i64 x1, .int .i64 x2, .slice a nn c] 127) = w' := by
  go_enter Try.func100, Try.ntmps100
  go_wp2_with (go_at_call 142; refine (szInt64S_yes _ _ _ _ _ (by omega) (by omega)).mono ?_; rintro e w' ⟨rfl, rfl⟩)
  go_ret
  exact ⟨rfl, rfl⟩

set_option maxHeartbeats 400000 in
theorem szStep_no (x0 : ByteArray) (x1 x2 : Int) (a : Option Addr) (nn c : Nat) (left : Int) (w : World) (hs0 : x0.size ≤ 9223372036854775807) (hm : nn ≤ 9223372036854775807) (h : left < (x0.size : Int) + (nn : Int)) (hl : left ≤ 1048576) (h0 : 0 ≤ left) :
    Calls Try.prog 100 #[.agg #[.string x0, .int .i64 x1, .int .i64 x2, .slice a nn c], .int .i64 left] w fun e w' => e = .returned (.int .i64 (-1)) ∧ w.alloc (.cells #[.string x0, .int .i64 x1, .int .i64 x2, .slice a nn c] 127) = w' := by
  by_cases h1 : left < (x0.size : Int)
  · go_enter Try.func100, Try.ntmps100
    go_wp2
    go_ret
    exact ⟨rfl, rfl⟩
  · have h2 : (x0.size : Int) ≤ left := by omega
    clear h1
    go_enter Try.func100, Try.ntmps100
    go_wp2_with (go_at_call 142; refine (szInt64S_no _ _ _ _ _ (by omega) (by omega) (by omega) hm).mono ?_; rintro e w' ⟨rfl, rfl⟩)
    go_ret
    exact ⟨rfl, rfl⟩

/-- What the measure of size hands back. -/
def SzN (n : Nat) (N : Nat → Nat) (w : World) (e : Ending) (w' : World) : Prop := ∃ r : Int, (r < 0 ∨ (0 ≤ r ∧ r ≤ 1048576 ∧ n ≤ 1048576 ∧ ∀ i, i < n → N i ≤ 1048576)) ∧ e = .returned (.int .i64 r) ∧ Below w.heap.size w w'

set_option maxHeartbeats 1000000 in
theorem szStepS_any (b off n c : Nat) (F0 : Nat → ByteArray) (F1 F2 : Nat → Int) (A : Nat → Option Addr) (N C : Nat → Nat) (w : World) (hb : b < w.heap.size) (hn : n ≤ maxLen) (hr : RdStep w b off n F0 F1 F2 A N C) (hS0 : ∀ i, i < n → (F0 i).size ≤ maxLen) (hN : ∀ i, i < n → N i ≤ maxLen) :
    Calls Try.prog 39 #[.slice (some ⟨b, off, none⟩) n c, .int .i64 1048576] w (SzN n N w) := by
  unfold maxLen at hn
  by_cases h0 : n ≤ 1048576
  · have HR := Lib.hid hr
    have HS0 := Lib.hid hS0
    have HN := Lib.hid hN
    clear hr hS0 hN
    go_enter Try.func39, Try.ntmps39
    go_wp2
    go_loopw [1, 5] (fun l i wr => ∃ (k : Nat) (z : Int), k ≤ n ∧ i = .int .i64 k ∧ l = .int .i64 z ∧ 0 ≤ z ∧ z ≤ 1048576 ∧ (∀ j, j < k → N j ≤ 1048576) ∧ Below w.heap.size w wr) (fun _ i _ => n - (intOf i).toNat)
    case atStart => exact ⟨0, _, Nat.zero_le _, rfl, rfl, by omega, by omega, fun j hj => absurd hj (by omega), Below.refl _ _⟩
    case round =>
      obtain ⟨k, z, hk, rfl, rfl, hz0, hz1, hj, hbel⟩ := hrel
      have HJ := Lib.hid hj
      clear hj
      by_cases hlt : k < n
      · obtain ⟨c0, c1, c2, c3⟩ := HR.out k hlt
        have hsk := HS0.out k hlt
        have hnk := HN.out k hlt
        unfold maxLen at hsk hnk
        have hbc := bcell hbel
        rw [← hbc _ _ hb] at c0 c1 c2 c3
        clear hbc
        by_cases hsz : ((F0 k).size : Int) + (N k : Int) ≤ z
        · have HJ2 := Lib.hid (show ∀ j, j < k + 1 → N j ≤ 1048576 from fun j hj => if e : j = k then by rw [e]; omega else HJ.out j (by omega))
          go_wp2_with (go_at_call 100; refine (szStep_yes _ _ _ _ _ _ _ _ hsz hz1).mono ?_; rintro e w' ⟨rfl, rfl⟩)
          go_roundw
          case rel => exact ⟨k + 1, _, by omega, by go_num, rfl, by omega, by omega, HJ2.out, hbel.alloc hbel.size _⟩
          case measure => simp [intOf]; omega
        · have hsz2 : z < ((F0 k).size : Int) + (N k : Int) := by omega
          go_wp2_with (go_at_call 100; refine (szStep_no _ _ _ _ _ _ _ _ hsk hnk hsz2 hz1 hz0).mono ?_; rintro e w' ⟨rfl, rfl⟩)
          go_ret
          exact ⟨-1, .inl (by decide), rfl, hbel.alloc hbel.size _⟩
      · obtain rfl : k = n := by omega
        go_wp2
        go_ret
        exact ⟨z, .inr ⟨hz0, hz1, h0, HJ.out⟩, rfl, hbel⟩
  · go_enter Try.func39, Try.ntmps39
    go_wp2
    go_ret
    exact ⟨-1, .inl (by decide), rfl, Below.refl _ _⟩

set_option maxHeartbeats 400000 in
theorem szStepS_nil (ad : Option Addr) (c : Nat) (N : Nat → Nat) (w : World) :
    Calls Try.prog 39 #[.slice ad 0 c, .int .i64 1048576] w (SzN 0 N w) := by
  go_enter Try.func39, Try.ntmps39
  go_wp2
  go_loopw [1, 5] (fun l i wr => i = .int .i64 0 ∧ l = .int .i64 1048576 ∧ w = wr) (fun _ _ _ => 0)
  case atStart => exact ⟨rfl, rfl, rfl⟩
  case round =>
    obtain ⟨rfl, rfl, rfl⟩ := hrel
    go_wp2
    go_ret
    exact ⟨1048576, .inr ⟨by decide, by decide, by decide, fun i hi => absurd hi (by omega)⟩, rfl, Below.refl _ _⟩

theorem row_set_other {w : World} {g b o n : Nat} {t : TypeId} {f : Nat → Value} {v : Value} (h : w.rowIs g t n f) (hne : b ≠ g) : (w.setCell ⟨b, o, none⟩ v).rowIs g t n f :=
  h.of_block (by simp [World.setCell, Array.getElem?_modify, hne])

set_option maxHeartbeats 2000000 in
theorem toStep_any (x0 : ByteArray) (x1 x2 : Int) (a : Option Addr) (nn c : Nat) (z : Nat → Int) (w : World) (hi : InInts w a nn z) (hm : nn ≤ 1048576) :
    Calls Try.prog 102 #[.agg #[.string x0, .int .i64 x1, .int .i64 x2, .slice a nn c]] w fun e w' => ∃ g1, e = .returned (.agg #[.string x0, .int .i64 x1, .int .i64 x2, .slice (some ⟨g1, 0, none⟩) nn nn]) ∧ w.heap.size ≤ g1 ∧ w'.rowIs g1 2 nn (rowInts z) ∧ Below w.heap.size w w' := by
  have HI := Lib.hid (hi.below (((below_new w (.cells #[.string x0, .int .i64 x1, .int .i64 x2, .slice a nn c] 127)).alloc (by simp) (.cells #[.string ⟨#[]⟩, .int .i64 0, .int .i64 0, .slice none 0 0] 128)).alloc (by simp; omega) (.cells #[.string x0, .int .i64 x1, .int .i64 x2, .slice none 0 0] 128)))
  clear hi
  go_enter Try.func102, Try.ntmps102
  go_wp2_with fail
  refine (toInt64S_in a nn c z _ HI.out hm).mono ?_
  rintro e w1 ⟨rfl, R1, hb1⟩
  have hs0 : (((w.alloc (.cells #[.string x0, .int .i64 x1, .int .i64 x2, .slice a nn c] 127)).alloc (.cells #[.string ⟨#[]⟩, .int .i64 0, .int .i64 0, .slice none 0 0] 128)).alloc (.cells #[.string x0, .int .i64 x1, .int .i64 x2, .slice none 0 0] 128)).heap.size = w.heap.size + 3 := by simp
  rw [hs0] at R1
  have C1 := (((below_new w (.cells #[.string x0, .int .i64 x1, .int .i64 x2, .slice a nn c] 127)).alloc (by simp) (.cells #[.string ⟨#[]⟩, .int .i64 0, .int .i64 0, .slice none 0 0] 128)).alloc (by simp; omega) (.cells #[.string x0, .int .i64 x1, .int .i64 x2, .slice none 0 0] 128)).trans (hb1.mono (by simp; omega))
  have hs1 := R1.lt
  have HR := Lib.hid R1
  clear R1 hs0
  have b0 : w1.cell? ⟨w.heap.size + 1, 0, none⟩ = some (.string ⟨#[]⟩) := (bcell hb1 _ _ (by simp)).trans (by go_simp)
  have b1 : w1.cell? ⟨w.heap.size + 1, 1, none⟩ = some (.int .i64 0) := (bcell hb1 _ _ (by simp)).trans (by go_simp)
  have b2 : w1.cell? ⟨w.heap.size + 1, 2, none⟩ = some (.int .i64 0) := (bcell hb1 _ _ (by simp)).trans (by go_simp)
  have b3 : w1.cell? ⟨w.heap.size + 1, 3, none⟩ = some (.slice none 0 0) := (bcell hb1 _ _ (by simp)).trans (by go_simp)
  have d0 : w1.cell? ⟨w.heap.size + 2, 0, none⟩ = some (.string x0) := (bcell hb1 _ _ (by simp)).trans (by go_simp)
  have d1 : w1.cell? ⟨w.heap.size + 2, 1, none⟩ = some (.int .i64 x1) := (bcell hb1 _ _ (by simp)).trans (by go_simp)
  have d2 : w1.cell? ⟨w.heap.size + 2, 2, none⟩ = some (.int .i64 x2) := (bcell hb1 _ _ (by simp)).trans (by go_simp)
  have d3 : w1.cell? ⟨w.heap.size + 2, 3, none⟩ = some (.slice none 0 0) := (bcell hb1 _ _ (by simp)).trans (by go_simp)
  have f0 : w1.frozen? ⟨w.heap.size + 1, 0, none⟩ = false := (hb1.frozen (p := ⟨w.heap.size + 1, 0, none⟩) (by simp)).trans (by go_simp)
  have f1 : w1.frozen? ⟨w.heap.size + 1, 1, none⟩ = false := (hb1.frozen (p := ⟨w.heap.size + 1, 1, none⟩) (by simp)).trans (by go_simp)
  have f2 : w1.frozen? ⟨w.heap.size + 1, 2, none⟩ = false := (hb1.frozen (p := ⟨w.heap.size + 1, 2, none⟩) (by simp)).trans (by go_simp)
  have f3 : w1.frozen? ⟨w.heap.size + 1, 3, none⟩ = false := (hb1.frozen (p := ⟨w.heap.size + 1, 3, none⟩) (by simp)).trans (by go_simp)
  have k0 : w1.frozen? ⟨w.heap.size + 2, 0, none⟩ = false := (hb1.frozen (p := ⟨w.heap.size + 2, 0, none⟩) (by simp)).trans (by go_simp)
  have k1 : w1.frozen? ⟨w.heap.size + 2, 1, none⟩ = false := (hb1.frozen (p := ⟨w.heap.size + 2, 1, none⟩) (by simp)).trans (by go_simp)
  have k2 : w1.frozen? ⟨w.heap.size + 2, 2, none⟩ = false := (hb1.frozen (p := ⟨w.heap.size + 2, 2, none⟩) (by simp)).trans (by go_simp)
  have k3 : w1.frozen? ⟨w.heap.size + 2, 3, none⟩ = false := (hb1.frozen (p := ⟨w.heap.size + 2, 3, none⟩) (by simp)).trans (by go_simp)
  clear hb1
  go_wp2
  refine bodyPost_ret (v := .agg #[.string x0, .int .i64 x1, .int .i64 x2, .slice (some ⟨w.heap.size + 3, 0, none⟩) nn nn]) (by simp [results, Try.results102, go_sem, b0, b1, b2, b3]) rfl ⟨_, rfl, by omega, ?_, ?_⟩
  · exact row_set_other (row_set_other (row_set_other (row_set_other (row_set_other HR.out (by simp)) (by simp)) (by simp)) (by simp)) (by simp)
  · exact ((((C1.setCell (by first | (simp; done) | (simp; omega)) _).setCell (by first | (simp; done) | (simp; omega)) _).setCell (by first | (simp; done) | (simp; omega)) _).setCell (by first | (simp; done) | (simp; omega)) _).setCell (by first | (simp; done) | (simp; omega)) _
end Go.Proofs.Ytllmillhdmknpaa
