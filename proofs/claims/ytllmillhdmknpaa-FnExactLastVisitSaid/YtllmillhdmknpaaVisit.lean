/- The contracts of the helpers of the type Visit: the measure of size, the copy, the comparison of a copy with a copy. -/
import Derived.Test.YtllmillhdmknpaaSmall
import Derived.Deep.RegionHeld3
import Derived.Deep.DrawnRows
namespace Go.Proofs.Ytllmillhdmknpaa
open Go.RowKit
attribute [local go_sem ↓] Go.wp_at_zero Go.wp_at_succ
/-- The cells of a row of Visits. -/
def rowVisit (F0 : Nat → Int) (F1 : Nat → ByteArray) (F2 : Nat → Int) (F3 : Nat → Int) (i j : Nat) : Value := match j with | 0 => .int .i64 (F0 i) | 1 => .string (F1 i) | 2 => .int .i64 (F2 i) | _ => .int .i64 (F3 i)

/-- A slice of Visits that can be read. -/
def RdVisit (w : World) (b off n : Nat) (F0 : Nat → Int) (F1 : Nat → ByteArray) (F2 : Nat → Int) (F3 : Nat → Int) : Prop := ∀ i, i < n → w.cell? ⟨b, off + i * 4, none⟩ = some (.int .i64 (F0 i)) ∧ w.cell? ⟨b, off + i * 4 + 1, none⟩ = some (.string (F1 i)) ∧ w.cell? ⟨b, off + i * 4 + 2, none⟩ = some (.int .i64 (F2 i)) ∧ w.cell? ⟨b, off + i * 4 + 3, none⟩ = some (.int .i64 (F3 i))

theorem RdVisit.of_row {w : World} {g n : Nat} {t : TypeId} {F0 : Nat → Int} {F1 : Nat → ByteArray} {F2 : Nat → Int} {F3 : Nat → Int} (h : w.rowIs g t (n * 4) (flat 4 (rowVisit F0 F1 F2 F3))) : RdVisit w g 0 n F0 F1 F2 F3 := by
  intro i hi
  refine ⟨?_, ?_, ?_, ?_⟩
  · have e := h.cell (i := i * 4) (by omega); rw [flat_at0 _ _ _ (by omega)] at e; simpa [rowVisit] using e
  · have e := h.cell (i := i * 4 + 1) (by omega); rw [flat_at _ _ _ _ (by omega)] at e; simpa [rowVisit] using e
  · have e := h.cell (i := i * 4 + 2) (by omega); rw [flat_at _ _ _ _ (by omega)] at e; simpa [rowVisit] using e
  · have e := h.cell (i := i * 4 + 3) (by omega); rw [flat_at _ _ _ _ (by omega)] at e; simpa [rowVisit] using e

set_option maxHeartbeats 400000 in
theorem szVisit_yes (x0 : Int) (x1 : ByteArray) (x2 : Int) (x3 : Int) (left : Int) (w : World) (h : (x1.size : Int) ≤ left) (hl : left ≤ 1048576) :
    Calls Try.prog 112 #[.agg #[.int .i64 x0, .string x1, .int .i64 x2, .int .i64 x3], .int .i64 left] w fun e w' => e = .returned (.int .i64 (left - x1.size)) ∧ w.alloc (.cells #[.int .i64 x0, .string x1, .int .i64 x2, .int .i64 x3] 147) = w' := by
  go_enter Try.func112, Try.ntmps112
  go_wp2
  go_ret
  exact ⟨rfl, rfl⟩

set_option maxHeartbeats 400000 in
theorem szVisit_no (x0 : Int) (x1 : ByteArray) (x2 : Int) (x3 : Int) (left : Int) (w : World) (hs1 : x1.size ≤ maxLen) (h : left < (x1.size : Int)) (hl : left ≤ 1048576) (h0 : 0 ≤ left) :
    Calls Try.prog 112 #[.agg #[.int .i64 x0, .string x1, .int .i64 x2, .int .i64 x3], .int .i64 left] w fun e w' => e = .returned (.int .i64 (-1)) ∧ w.alloc (.cells #[.int .i64 x0, .string x1, .int .i64 x2, .int .i64 x3] 147) = w' := by
  unfold maxLen at hs1
  go_enter Try.func112, Try.ntmps112
  go_wp2
  all_goals (go_ret; exact ⟨rfl, rfl⟩)

set_option maxHeartbeats 1000000 in
theorem szVisitS_any (b off n c : Nat) (F0 : Nat → Int) (F1 : Nat → ByteArray) (F2 : Nat → Int) (F3 : Nat → Int) (w : World) (hb : b < w.heap.size) (hn : n ≤ maxLen) (hr : RdVisit w b off n F0 F1 F2 F3) (hS1 : ∀ i, i < n → (F1 i).size ≤ maxLen) :
    Calls Try.prog 49 #[.slice (some ⟨b, off, none⟩) n c, .int .i64 1048576] w (SzPost n w) := by
  unfold maxLen at hn
  by_cases h0 : n ≤ 1048576
  · have HR := Lib.hid hr
    have HS1 := Lib.hid hS1
    clear hr hS1
    go_enter Try.func49, Try.ntmps49
    go_wp2
    go_loopw [1, 5] (fun l i wr => ∃ (k : Nat) (z : Int), k ≤ n ∧ i = .int .i64 k ∧ l = .int .i64 z ∧ 0 ≤ z ∧ z ≤ 1048576 ∧ Below w.heap.size w wr) (fun _ i _ => n - (intOf i).toNat)
    case atStart => exact ⟨0, _, Nat.zero_le _, rfl, rfl, by omega, by omega, Below.refl _ _⟩
    case round =>
      obtain ⟨k, z, hk, rfl, rfl, hz0, hz1, hbel⟩ := hrel
      by_cases hlt : k < n
      · obtain ⟨c0, c1, c2, c3⟩ := HR.out k hlt
        have hsk1 := HS1.out k hlt
        have hbc := bcell hbel
        rw [← hbc _ _ hb] at c0 c1 c2 c3
        clear hbc
        by_cases hsz : ((F1 k).size : Int) ≤ z
        · go_wp2_with (go_at_call 112; refine (szVisit_yes _ _ _ _ _ _ hsz hz1).mono ?_; rintro e w' ⟨rfl, rfl⟩)
          go_roundw
          case rel => exact ⟨k + 1, _, by omega, by go_num, rfl, by omega, by omega, hbel.alloc hbel.size _⟩
          case measure => simp [intOf]; omega
        · have hsz' : z < ((F1 k).size : Int) := by omega
          go_wp2_with (go_at_call 112; refine (szVisit_no _ _ _ _ _ _ hsk1 hsz' hz1 hz0).mono ?_; rintro e w' ⟨rfl, rfl⟩)
          go_ret
          exact ⟨-1, .inl (by decide), rfl, hbel.alloc hbel.size _⟩
      · go_wp2
        go_ret
        exact ⟨z, .inr ⟨hz0, hz1, h0⟩, rfl, hbel⟩
  · go_enter Try.func49, Try.ntmps49
    go_wp2
    go_ret
    exact ⟨-1, .inl (by decide), rfl, Below.refl _ _⟩

set_option maxHeartbeats 400000 in
theorem szVisitS_nil (ad : Option Addr) (c : Nat) (w : World) :
    Calls Try.prog 49 #[.slice ad 0 c, .int .i64 1048576] w (SzPost 0 w) := by
  go_enter Try.func49, Try.ntmps49
  go_wp2
  go_loopw [1, 5] (fun l i wr => i = .int .i64 0 ∧ l = .int .i64 1048576 ∧ w = wr) (fun _ _ _ => 0)
  case atStart => exact ⟨rfl, rfl, rfl⟩
  case round =>
    obtain ⟨rfl, rfl, rfl⟩ := hrel
    go_wp2
    go_ret
    exact ⟨1048576, .inr ⟨by decide, by decide, by decide⟩, rfl, Below.refl _ _⟩

set_option maxHeartbeats 400000 in
theorem toVisit_any (x0 : Int) (x1 : ByteArray) (x2 : Int) (x3 : Int) (w : World) :
    Calls Try.prog 115 #[.agg #[.int .i64 x0, .string x1, .int .i64 x2, .int .i64 x3]] w fun e w' => e = .returned (.agg #[.int .i64 x0, .string x1, .int .i64 x2, .int .i64 x3]) ∧ ((w.alloc (.cells #[.int .i64 x0, .string x1, .int .i64 x2, .int .i64 x3] 147)).alloc (.cells #[.int .i64 x0, .string x1, .int .i64 x2, .int .i64 x3] 150)).alloc (.cells #[.int .i64 x0, .string x1, .int .i64 x2, .int .i64 x3] 150) = w' := by
  go_enter Try.func115, Try.ntmps115
  go_wp2
  exact bodyPost_ret (v := .agg #[.int .i64 x0, .string x1, .int .i64 x2, .int .i64 x3]) (by simp [results, Try.results115, go_sem]) rfl ⟨rfl, rfl⟩

theorem infoVisit : (Try.prog.info? 150).map (fun i => (i.zero, i.size, i.bytes)) = some (some (.agg #[.int .i64 0, .string ByteArray.empty, .int .i64 0, .int .i64 0]), 4, 40) := by kernel_rfl

/-- What the copy of a slice hands back. -/
def ToVisitPost (n : Nat) (F0 : Nat → Int) (F1 : Nat → ByteArray) (F2 : Nat → Int) (F3 : Nat → Int) (w : World) (e : Ending) (w' : World) : Prop := e = .returned (.slice (some ⟨w.heap.size, 0, none⟩) n n) ∧ w'.rowIs w.heap.size 150 (n * 4) (flat 4 (rowVisit F0 F1 F2 F3)) ∧ Below w.heap.size w w'

set_option maxHeartbeats 1000000 in
theorem toVisitS_any (b off n c : Nat) (F0 : Nat → Int) (F1 : Nat → ByteArray) (F2 : Nat → Int) (F3 : Nat → Int) (w : World) (hb : b < w.heap.size) (hn : n ≤ 1048576) (hr : RdVisit w b off n F0 F1 F2 F3) :
    Calls Try.prog 51 #[.slice (some ⟨b, off, none⟩) n c] w (ToVisitPost n F0 F1 F2 F3 w) := by
  have HR := Lib.hid hr
  clear hr
  obtain ⟨i0, hi, hz0, hz1, hz2⟩ := info_parts infoVisit
  have hmk := fun W => run_make_rowN (P := Try.prog) 77 150 i0 _ Try.underlying77 hi hz0 .i64 .i64 n n (Nat.le_refl _) (by rw [hz2]; omega) (by omega) W
  rw [hz1] at hmk
  clear hi hz0 hz1 hz2
  go_enter Try.func51, Try.ntmps51
  go_wp2
  clear hmk
  go_loopw [4] (fun i wr => ∃ (k : Nat), k ≤ n ∧ i = .int .i64 k ∧ Below w.heap.size w wr ∧ Part wr w.heap.size 150 (n * 4) (k * 4) (flat 4 (rowVisit F0 F1 F2 F3))) (fun i _ => n - (intOf i).toNat)
  case atStart => exact ⟨0, Nat.zero_le _, rfl, below_new _ _, (Part.made w _ _ _ _).upto (by omega)⟩
  case round =>
    obtain ⟨k, hk, rfl, hbel, hpart⟩ := hrel
    by_cases hlt : k < n
    · obtain ⟨c0, c1, c2, c3⟩ := HR.out k hlt
      have hbc := bcell hbel
      rw [← hbc _ _ hb] at c0 c1 c2 c3
      clear hbc
      have hgl := hpart.lt
      have HP := Lib.hid hpart
      clear hpart
      go_wp2_with fail
      refine (toVisit_any _ _ _ _ _).mono ?_
      rintro e w1 ⟨rfl, hw1⟩
      have hB : Below wr.heap.size wr w1 := by
        subst hw1
        exact (((below_new _ _).alloc (by simp) _).alloc (by simp; omega) _)
      clear hw1
      have hP1 := HP.out.below hB hgl
      have hb1 := hbel.trans (hB.mono hbel.size)
      have hS1 := hB.size
      clear c0 c1 c2 c3 HP hbel
      obtain ⟨v0, d0⟩ := hP1.cell (i := k * 4) (by omega)
      obtain ⟨v1, d1⟩ := hP1.cell (i := k * 4 + 1) (by omega)
      obtain ⟨v2, d2⟩ := hP1.cell (i := k * 4 + 2) (by omega)
      obtain ⟨v3, d3⟩ := hP1.cell (i := k * 4 + 3) (by omega)
      have f0 := hP1.frozen (k * 4)
      have f1 := hP1.frozen (k * 4 + 1)
      have f2 := hP1.frozen (k * 4 + 2)
      have f3 := hP1.frozen (k * 4 + 3)
      have HP := Lib.hid hP1
      clear hP1 hB
      go_wp2
      go_roundw
      case rel => exact ⟨k + 1, by omega, by go_num, ((((hb1.setCell (by simp) _).setCell (by simp) _).setCell (by simp) _).setCell (by simp) _), ((((HP.out.put (j := k * 4) (by omega) (v := .int .i64 (F0 k)) (by rw [show k * 4 = k * 4 from rfl]; exact flat_at0 _ _ _ (by omega))).put (j := k * 4 + 1) (by omega) (v := .string (F1 k)) (by rw [show k * 4 + 1 = k * 4 + 1 from rfl]; exact flat_at _ _ _ _ (by omega))).put (j := k * 4 + 2) (by omega) (v := .int .i64 (F2 k)) (by rw [show k * 4 + 1 + 1 = k * 4 + 2 from rfl]; exact flat_at _ _ _ _ (by omega))).put (j := k * 4 + 3) (by omega) (v := .int .i64 (F3 k)) (by rw [show k * 4 + 1 + 1 + 1 = k * 4 + 3 from rfl]; exact flat_at _ _ _ _ (by omega))).upto (by omega)⟩
      case measure => simp [intOf]; omega
    · obtain rfl : k = n := by omega
      go_wp2
      go_ret
      exact ⟨rfl, hpart.whole, hbel⟩

set_option maxHeartbeats 400000 in
theorem toVisitS_nil (ad : Option Addr) (c : Nat) (F0 : Nat → Int) (F1 : Nat → ByteArray) (F2 : Nat → Int) (F3 : Nat → Int) (w : World) :
    Calls Try.prog 51 #[.slice ad 0 c] w (ToVisitPost 0 F0 F1 F2 F3 w) := by
  have hmk : ∀ W : World, (Instr.makeSlice 77 (.int .i64 0) (.int .i64 0)).run Try.prog W = .ok (.slice (some ⟨W.heap.size, 0, none⟩) 0 0) (W.alloc (.cells #[] 150)) := fun _ => by kernel_rfl
  go_enter Try.func51, Try.ntmps51
  go_wp2
  clear hmk
  go_loopw [4] (fun i wr => i = .int .i64 0 ∧ wr = w.alloc (.cells #[] 150)) (fun _ _ => 0)
  case atStart => exact ⟨rfl, rfl⟩
  case round =>
    obtain ⟨rfl, rfl⟩ := hrel
    go_wp2
    go_ret
    exact ⟨rfl, by simpa using World.rowIs_alloc w #[] 150 _ (fun i hi => absurd hi (by simp)), below_new _ _⟩

set_option maxHeartbeats 400000 in
theorem eqVisit_any (x0 : Int) (x1 : ByteArray) (x2 : Int) (x3 : Int) (w : World) :
    Calls Try.prog 118 #[.agg #[.int .i64 x0, .string x1, .int .i64 x2, .int .i64 x3], .agg #[.int .i64 x0, .string x1, .int .i64 x2, .int .i64 x3]] w fun e w' => e = .returned (.bool true) ∧ (w.alloc (.cells #[.int .i64 x0, .string x1, .int .i64 x2, .int .i64 x3] 150)).alloc (.cells #[.int .i64 x0, .string x1, .int .i64 x2, .int .i64 x3] 150) = w' := by
  go_enter Try.func118, Try.ntmps118
  go_wp2
  go_ret
  exact ⟨rfl, rfl⟩

set_option maxHeartbeats 1000000 in
theorem eqVisitS_any (g1 g2 n : Nat) (F0 : Nat → Int) (F1 : Nat → ByteArray) (F2 : Nat → Int) (F3 : Nat → Int) (w : World) (t1 t2 : TypeId) (hn : n ≤ 1048576) (h1 : w.rowIs g1 t1 (n * 4) (flat 4 (rowVisit F0 F1 F2 F3))) (h2 : w.rowIs g2 t2 (n * 4) (flat 4 (rowVisit F0 F1 F2 F3))) :
    Calls Try.prog 53 #[.slice (some ⟨g1, 0, none⟩) n n, .slice (some ⟨g2, 0, none⟩) n n] w fun e w' => e = .returned (.bool true) ∧ Below w.heap.size w w' := by
  have hl1 := h1.lt
  have hl2 := h2.lt
  have HR1 := Lib.hid (RdVisit.of_row h1)
  have HR2 := Lib.hid (RdVisit.of_row h2)
  clear h1 h2
  go_enter Try.func53, Try.ntmps53
  go_wp2
  go_loopw [5] (fun i wr => ∃ (k : Nat), k ≤ n ∧ i = .int .i64 k ∧ Below w.heap.size w wr) (fun i _ => n - (intOf i).toNat)
  case atStart => exact ⟨0, Nat.zero_le _, rfl, Below.refl _ _⟩
  case round =>
    obtain ⟨k, hk, rfl, hbel⟩ := hrel
    by_cases hlt : k < n
    · have hlti : (k : Int) < (n : Int) := by omega
      have hki : (0 : Int) ≤ (k : Int) := by omega
      obtain ⟨c0, c1, c2, c3⟩ := HR1.out k hlt
      obtain ⟨d0, d1, d2, d3⟩ := HR2.out k hlt
      have hbc := bcell hbel
      rw [← hbc _ _ hl1] at c0 c1 c2 c3
      rw [← hbc _ _ hl2] at d0 d1 d2 d3
      simp only [Nat.zero_add] at c0 c1 c2 c3 d0 d1 d2 d3
      clear hbc
      go_wp2
      go_region_held3 (fun w' => w'.cell? ⟨g1, k * 4, none⟩ = some (.int .i64 (F0 k)) ∧ w'.cell? ⟨g1, k * 4 + 1, none⟩ = some (.string (F1 k)) ∧ w'.cell? ⟨g1, k * 4 + 2, none⟩ = some (.int .i64 (F2 k)) ∧ w'.cell? ⟨g1, k * 4 + 3, none⟩ = some (.int .i64 (F3 k)) ∧ w'.cell? ⟨g2, k * 4, none⟩ = some (.int .i64 (F0 k)) ∧ w'.cell? ⟨g2, k * 4 + 1, none⟩ = some (.string (F1 k)) ∧ w'.cell? ⟨g2, k * 4 + 2, none⟩ = some (.int .i64 (F2 k)) ∧ w'.cell? ⟨g2, k * 4 + 3, none⟩ = some (.int .i64 (F3 k))) (go_keep)
        (first | (go_at_call 118; refine (eqVisit_any _ _ _ _ _).mono ?_; rintro e w' ⟨rfl, rfl⟩))
      go_wp2
      go_roundw
      case rel => exact ⟨k + 1, by omega, by go_num, below_two hbel _ _⟩
      case measure => simp [intOf]; omega
    · go_wp2
      go_ret
      exact ⟨rfl, hbel⟩
end Go.Proofs.Ytllmillhdmknpaa
