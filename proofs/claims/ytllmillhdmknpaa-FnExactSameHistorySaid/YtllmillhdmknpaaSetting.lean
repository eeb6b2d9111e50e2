/- The contracts of the helpers of the type Setting: the measure of size, the copy, the comparison of a copy with a copy. -/
import Derived.Test.YtllmillhdmknpaaSmall
import Derived.Deep.RegionHeld3
import Derived.Deep.DrawnRows
namespace Go.Proofs.Ytllmillhdmknpaa
open Go.RowKit
attribute [local go_sem ↓] Go.wp_at_zero Go.wp_at_succ
/-- The cells of a row of Settings. -/
def rowSetting (F0 : Nat → ByteArray) (F1 : Nat → Int) (i j : Nat) : Value := match j with | 0 => .string (F0 i) | _ => .int .i64 (F1 i)

/-- A slice of Settings that can be read. -/
def RdSetting (w : World) (b off n : Nat) (F0 : Nat → ByteArray) (F1 : Nat → Int) : Prop := ∀ i, i < n → w.cell? ⟨b, off + i * 2, none⟩ = some (.string (F0 i)) ∧ w.cell? ⟨b, off + i * 2 + 1, none⟩ = some (.int .i64 (F1 i))

theorem RdSetting.of_row {w : World} {g n : Nat} {t : TypeId} {F0 : Nat → ByteArray} {F1 : Nat → Int} (h : w.rowIs g t (n * 2) (flat 2 (rowSetting F0 F1))) : RdSetting w g 0 n F0 F1 := by
  intro i hi
  refine ⟨?_, ?_⟩
  · have e := h.cell (i := i * 2) (by omega); rw [flat_at0 _ _ _ (by omega)] at e; simpa [rowSetting] using e
  · have e := h.cell (i := i * 2 + 1) (by omega); rw [flat_at _ _ _ _ (by omega)] at e; simpa [rowSetting] using e

set_option maxHeartbeats 400000 in
theorem szSetting_yes (x0 : ByteArray) (x1 : Int) (left : Int) (w : World) (h : (x0.size : Int) ≤ left) (hl : left ≤ 1048576) :
    Calls Try.prog 169 #[.agg #[.string x0, .int .i64 x1], .int .i64 left] w fun e w' => e = .returned (.int .i64 (left - x0.size)) ∧ w.alloc (.cells #[.string x0, .int .i64 x1] 196) = w' := by
  go_enter Try.func169, Try.ntmps169
  go_wp2
  go_ret
  exact ⟨rfl, rfl⟩

set_option maxHeartbeats 400000 in
theorem szSetting_no (x0 : ByteArray) (x1 : Int) (left : Int) (w : World) (hs0 : x0.size ≤ maxLen) (h : left < (x0.size : Int)) (hl : left ≤ 1048576) (h0 : 0 ≤ left) :
    Calls Try.prog 169 #[.agg #[.string x0, .int .i64 x1], .int .i64 left] w fun e w' => e = .returned (.int .i64 (-1)) ∧ w.alloc (.cells #[.string x0, .int .i64 x1] 196) = w' := by
  unfold maxLen at hs0
  go_enter Try.func169, Try.ntmps169
  go_wp2
  all_goals (go_ret; exact ⟨rfl, rfl⟩)

set_option maxHeartbeats 1000000 in
theorem szSettingS_any (b off n c : Nat) (F0 : Nat → ByteArray) (F1 : Nat → Int) (w : World) (hb : b < w.heap.size) (hn : n ≤ maxLen) (hr : RdSetting w b off n F0 F1) (hS0 : ∀ i, i < n → (F0 i).size ≤ maxLen) :
    Calls Try.prog 149 #[.slice (some ⟨b, off, none⟩) n c, .int .i64 1048576] w (SzPost n w) := by
  unfold maxLen at hn
  by_cases h0 : n ≤ 1048576
  · have HR := Lib.hid hr
    have HS0 := Lib.hid hS0
    clear hr hS0
    go_enter Try.func149, Try.ntmps149
    go_wp2
    go_loopw [1, 5] (fun l i wr => ∃ (k : Nat) (z : Int), k ≤ n ∧ i = .int .i64 k ∧ l = .int .i64 z ∧ 0 ≤ z ∧ z ≤ 1048576 ∧ Below w.heap.size w wr) (fun _ i _ => n - (intOf i).toNat)
    case atStart => exact ⟨0, _, Nat.zero_le _, rfl, rfl, by omega, by omega, Below.refl _ _⟩
    case round =>
      obtain ⟨k, z, hk, rfl, rfl, hz0, hz1, hbel⟩ := hrel
      by_cases hlt : k < n
      · obtain ⟨c0, c1⟩ := HR.out k hlt
        have hsk0 := HS0.out k hlt
        have hbc := bcell hbel
        rw [← hbc _ _ hb] at c0 c1
        clear hbc
        by_cases hsz : ((F0 k).size : Int) ≤ z
        · go_wp2_with (go_at_call 169; refine (szSetting_yes _ _ _ _ hsz hz1).mono ?_; rintro e w' ⟨rfl, rfl⟩)
          go_roundw
          case rel => exact ⟨k + 1, _, by omega, by go_num, rfl, by omega, by omega, hbel.alloc hbel.size _⟩
          case measure => simp [intOf]; omega
        · have hsz' : z < ((F0 k).size : Int) := by omega
          go_wp2_with (go_at_call 169; refine (szSetting_no _ _ _ _ hsk0 hsz' hz1 hz0).mono ?_; rintro e w' ⟨rfl, rfl⟩)
          go_ret
          exact ⟨-1, .inl (by decide), rfl, hbel.alloc hbel.size _⟩
      · go_wp2
        go_ret
        exact ⟨z, .inr ⟨hz0, hz1, h0⟩, rfl, hbel⟩
  · go_enter Try.func149, Try.ntmps149
    go_wp2
    go_ret
    exact ⟨-1, .inl (by decide), rfl, Below.refl _ _⟩

set_option maxHeartbeats 400000 in
theorem szSettingS_nil (ad : Option Addr) (c : Nat) (w : World) :
    Calls Try.prog 149 #[.slice ad 0 c, .int .i64 1048576] w (SzPost 0 w) := by
  go_enter Try.func149, Try.ntmps149
  go_wp2
  go_loopw [1, 5] (fun l i wr => i = .int .i64 0 ∧ l = .int .i64 1048576 ∧ w = wr) (fun _ _ _ => 0)
  case atStart => exact ⟨rfl, rfl, rfl⟩
  case round =>
    obtain ⟨rfl, rfl, rfl⟩ := hrel
    go_wp2
    go_ret
    exact ⟨1048576, .inr ⟨by decide, by decide, by decide⟩, rfl, Below.refl _ _⟩

set_option maxHeartbeats 400000 in
theorem toSetting_any (x0 : ByteArray) (x1 : Int) (w : World) :
    Calls Try.prog 170 #[.agg #[.string x0, .int .i64 x1]] w fun e w' => e = .returned (.agg #[.string x0, .int .i64 x1]) ∧ ((w.alloc (.cells #[.string x0, .int .i64 x1] 196)).alloc (.cells #[.string x0, .int .i64 x1] 143)).alloc (.cells #[.string x0, .int .i64 x1] 143) = w' := by
  go_enter Try.func170, Try.ntmps170
  go_wp2
  exact bodyPost_ret (v := .agg #[.string x0, .int .i64 x1]) (by simp [results, Try.results170, go_sem]) rfl ⟨rfl, rfl⟩

theorem infoSetting : (Try.prog.info? 143).map (fun i => (i.zero, i.size, i.bytes)) = some (some (.agg #[.string ByteArray.empty, .int .i64 0]), 2, 24) := by kernel_rfl

/-- What the copy of a slice hands back. -/
def ToSettingPost (n : Nat) (F0 : Nat → ByteArray) (F1 : Nat → Int) (w : World) (e : Ending) (w' : World) : Prop := e = .returned (.slice (some ⟨w.heap.size, 0, none⟩) n n) ∧ w'.rowIs w.heap.size 143 (n * 2) (flat 2 (rowSetting F0 F1)) ∧ Below w.heap.size w w'

set_option maxHeartbeats 1000000 in
theorem toSettingS_any (b off n c : Nat) (F0 : Nat → ByteArray) (F1 : Nat → Int) (w : World) (hb : b < w.heap.size) (hn : n ≤ 1048576) (hr : RdSetting w b off n F0 F1) :
    Calls Try.prog 150 #[.slice (some ⟨b, off, none⟩) n c] w (ToSettingPost n F0 F1 w) := by
  have HR := Lib.hid hr
  clear hr
  obtain ⟨i0, hi, hz0, hz1, hz2⟩ := info_parts infoSetting
  have hmk := fun W => run_make_rowN (P := Try.prog) 136 143 i0 _ Try.underlying136 hi hz0 .i64 .i64 n n (Nat.le_refl _) (by rw [hz2]; omega) (by omega) W
  rw [hz1] at hmk
  clear hi hz0 hz1 hz2
  go_enter Try.func150, Try.ntmps150
  go_wp2
  clear hmk
  go_loopw [4] (fun i wr => ∃ (k : Nat), k ≤ n ∧ i = .int .i64 k ∧ Below w.heap.size w wr ∧ Part wr w.heap.size 143 (n * 2) (k * 2) (flat 2 (rowSetting F0 F1))) (fun i _ => n - (intOf i).toNat)
  case atStart => exact ⟨0, Nat.zero_le _, rfl, below_new _ _, (Part.made w _ _ _ _).upto (by omega)⟩
  case round =>
    obtain ⟨k, hk, rfl, hbel, hpart⟩ := hrel
    by_cases hlt : k < n
    · obtain ⟨c0, c1⟩ := HR.out k hlt
      have hbc := bcell hbel
      rw [← hbc _ _ hb] at c0 c1
      clear hbc
      have hgl := hpart.lt
      have HP := Lib.hid hpart
      clear hpart
      go_wp2_with fail
      refine (toSetting_any _ _ _).mono ?_
      rintro e w1 ⟨rfl, hw1⟩
      have hB : Below wr.heap.size wr w1 := by
        subst hw1
        exact (((below_new _ _).alloc (by simp) _).alloc (by simp; omega) _)
      clear hw1
      have hP1 := HP.out.below hB hgl
      have hb1 := hbel.trans (hB.mono hbel.size)
      have hS1 := hB.size
      clear c0 c1 HP hbel
      obtain ⟨v0, d0⟩ := hP1.cell (i := k * 2) (by omega)
      obtain ⟨v1, d1⟩ := hP1.cell (i := k * 2 + 1) (by omega)
      have f0 := hP1.frozen (k * 2)
      have f1 := hP1.frozen (k * 2 + 1)
      have HP := Lib.hid hP1
      clear hP1 hB
      go_wp2
      go_roundw
      case rel => exact ⟨k + 1, by omega, by go_num, ((hb1.setCell (by simp) _).setCell (by simp) _), ((HP.out.put (j := k * 2) (by omega) (v := .string (F0 k)) (by rw [show k * 2 = k * 2 from rfl]; exact flat_at0 _ _ _ (by omega))).put (j := k * 2 + 1) (by omega) (v := .int .i64 (F1 k)) (by rw [show k * 2 + 1 = k * 2 + 1 from rfl]; exact flat_at _ _ _ _ (by omega))).upto (by omega)⟩
      case measure => simp [intOf]; omega
    · obtain rfl : k = n := by omega
      go_wp2
      go_ret
      exact ⟨rfl, hpart.whole, hbel⟩

set_option maxHeartbeats 400000 in
theorem toSettingS_nil (ad : Option Addr) (c : Nat) (F0 : Nat → ByteArray) (F1 : Nat → Int) (w : World) :
    Calls Try.prog 150 #[.slice ad 0 c] w (ToSettingPost 0 F0 F1 w) := by
  have hmk : ∀ W : World, (Instr.makeSlice 136 (.int .i64 0) (.int .i64 0)).run Try.prog W = .ok (.slice (some ⟨W.heap.size, 0, none⟩) 0 0) (W.alloc (.cells #[] 143)) := fun _ => by kernel_rfl
  go_enter Try.func150, Try.ntmps150
  go_wp2
  clear hmk
  go_loopw [4] (fun i wr => i = .int .i64 0 ∧ wr = w.alloc (.cells #[] 143)) (fun _ _ => 0)
  case atStart => exact ⟨rfl, rfl⟩
  case round =>
    obtain ⟨rfl, rfl⟩ := hrel
    go_wp2
    go_ret
    exact ⟨rfl, by simpa using World.rowIs_alloc w #[] 143 _ (fun i hi => absurd hi (by simp)), below_new _ _⟩

set_option maxHeartbeats 400000 in
theorem eqSetting_any (x0 : ByteArray) (x1 : Int) (w : World) :
    Calls Try.prog 171 #[.agg #[.string x0, .int .i64 x1], .agg #[.string x0, .int .i64 x1]] w fun e w' => e = .returned (.bool true) ∧ (w.alloc (.cells #[.string x0, .int .i64 x1] 143)).alloc (.cells #[.string x0, .int .i64 x1] 143) = w' := by
  go_enter Try.func171, Try.ntmps171
  go_wp2
  go_ret
  exact ⟨rfl, rfl⟩

set_option maxHeartbeats 1000000 in
theorem eqSettingS_any (g1 g2 n : Nat) (F0 : Nat → ByteArray) (F1 : Nat → Int) (w : World) (t1 t2 : TypeId) (hn : n ≤ 1048576) (h1 : w.rowIs g1 t1 (n * 2) (flat 2 (rowSetting F0 F1))) (h2 : w.rowIs g2 t2 (n * 2) (flat 2 (rowSetting F0 F1))) :
    Calls Try.prog 151 #[.slice (some ⟨g1, 0, none⟩) n n, .slice (some ⟨g2, 0, none⟩) n n] w fun e w' => e = .returned (.bool true) ∧ Below w.heap.size w w' := by
  have hl1 := h1.lt
  have hl2 := h2.lt
  have HR1 := Lib.hid (RdSetting.of_row h1)
  have HR2 := Lib.hid (RdSetting.of_row h2)
  clear h1 h2
  go_enter Try.func151, Try.ntmps151
  go_wp2
  go_loopw [5] (fun i wr => ∃ (k : Nat), k ≤ n ∧ i = .int .i64 k ∧ Below w.heap.size w wr) (fun i _ => n - (intOf i).toNat)
  case atStart => exact ⟨0, Nat.zero_le _, rfl, Below.refl _ _⟩
  case round =>
    obtain ⟨k, hk, rfl, hbel⟩ := hrel
    by_cases hlt : k < n
    · have hlti : (k : Int) < (n : Int) := by omega
      have hki : (0 : Int) ≤ (k : Int) := by omega
      obtain ⟨c0, c1⟩ := HR1.out k hlt
      obtain ⟨d0, d1⟩ := HR2.out k hlt
      have hbc := bcell hbel
      rw [← hbc _ _ hl1] at c0 c1
      rw [← hbc _ _ hl2] at d0 d1
      simp only [Nat.zero_add] at c0 c1 d0 d1
      clear hbc
      go_wp2
      go_region_held3 (fun w' => w'.cell? ⟨g1, k * 2, none⟩ = some (.string (F0 k)) ∧ w'.cell? ⟨g1, k * 2 + 1, none⟩ = some (.int .i64 (F1 k)) ∧ w'.cell? ⟨g2, k * 2, none⟩ = some (.string (F0 k)) ∧ w'.cell? ⟨g2, k * 2 + 1, none⟩ = some (.int .i64 (F1 k))) (go_keep)
        (first | (go_at_call 171; refine (eqSetting_any _ _ _).mono ?_; rintro e w' ⟨rfl, rfl⟩))
      go_wp2
      go_roundw
      case rel => exact ⟨k + 1, by omega, by go_num, below_two hbel _ _⟩
      case measure => simp [intOf]; omega
    · go_wp2
      go_ret
      exact ⟨rfl, hbel⟩
end Go.Proofs.Ytllmillhdmknpaa
