/- A slice of integers that a call hands back: compared, marked, and read again. No statement of the program is proved here. -/
import Derived.Test.YtnfdodgecbibjaaSmall
import Derived.Test.YtnfdodgecbibjaaOwn
namespace Go.Proofs.Ytnfdodgecbibjaa
open Go.RowKit
set_option linter.unusedVariables false
section
variable {w w' : World} {g g2 M k : Nat} {t : TypeId} {f : Nat → Value}
theorem Part.at (h : Part w g t M k f) {i : Nat} (hi : i < k) (hM : k ≤ M) : w.cell? ⟨g, i, none⟩ = some (f i) := by
  obtain ⟨h', hr, hf⟩ := h
  rw [← hf i hi]
  exact hr.cell (by omega)
theorem Part.other (h : Part w g t M k f) (hg : w.grownBy w' (some g2)) (hne : g ≠ g2) : Part w' g t M k f := by
  have hl := h.lt
  obtain ⟨h', hr, hf⟩ := h
  exact ⟨h', hr.of_block (hg.block g hl (by simpa using hne)), hf⟩
theorem Part.none (h : Part w g t M k f) {f' : Nat → Value} : Part w g t M 0 f' := by
  obtain ⟨h', hr, hf⟩ := h
  exact ⟨h', hr, fun i hi => absurd hi (by omega)⟩
theorem Part.same (h : Part w g t M k f) {f' : Nat → Value} (he : ∀ i, i < k → f i = f' i) : Part w g t M k f' := by
  obtain ⟨h', hr, hf⟩ := h
  exact ⟨h', hr, fun i hi => (hf i hi).trans (he i hi)⟩
theorem Part.of_row (h : w.rowIs g t M f) : Part w g t M M f := ⟨f, h, fun _ _ => rfl⟩
theorem row_other (h : w.rowIs g t M f) (hg : w.grownBy w' (some g2)) (hne : g ≠ g2) : w'.rowIs g t M f := h.of_block (hg.block g h.lt (by simpa using hne))
theorem grown_set (h : w.grownBy w' (some g)) (j : Nat) (v : Value) : w.grownBy (w'.setCell ⟨g, j, none⟩ v) (some g) :=
  ⟨h.os, h.tape, h.output, by simpa [World.setCell] using h.size, fun k hk hne => by
    rw [← h.block k hk hne]
    have : g ≠ k := fun e => hne (by rw [e])
    simp [World.setCell, Array.getElem?_modify, this]⟩
theorem below_mark {B : Nat} {a : World} (h : Below B a w) (hg : w.grownBy w' (some g)) (hB : B ≤ g) (hBs : B ≤ a.heap.size := by exact Nat.le_refl _) : Below B a w' :=
  h.grown hg (Nat.le_trans hBs h.size) (fun k hk => by simp at hk; omega)
end
/-- What a mark writes. -/
def marks (i : Nat) : Value := .int .i64 (1 + (i : Int))
/-- A row of integers that were handed back. -/
def rowI (z : Nat → Int) (i : Nat) : Value := .int .i64 (z i)

set_option maxHeartbeats 1000000 in
theorem eqInt64S_p (g1 g2 n c1 c2 M1 M2 : Nat) (z : Nat → Int) (w : World) (t1 t2 : TypeId) (hn : n ≤ 1048576) (h1 : Part w g1 t1 M1 n (rowI z)) (hm1 : n ≤ M1) (h2 : Part w g2 t2 M2 n (rowI z)) (hm2 : n ≤ M2) :
    Calls Try.prog 17 #[.slice (some ⟨g1, 0, none⟩) n c1, .slice (some ⟨g2, 0, none⟩) n c2] w fun e w' => e = .returned (.bool true) ∧ Below w.heap.size w w' := by
  have hl1 := h1.lt
  have hl2 := h2.lt
  have HR1 := Lib.hid (fun i (hi : i < n) => h1.at hi hm1)
  have HR2 := Lib.hid (fun i (hi : i < n) => h2.at hi hm2)
  clear h1 h2
  go_enter Try.func17, Try.ntmps17
  go_wp2
  go_loopw [5] (fun i wr => ∃ (k : Nat), k ≤ n ∧ i = .int .i64 k ∧ Below w.heap.size w wr) (fun i _ => n - (intOf i).toNat)
  case atStart => exact ⟨0, Nat.zero_le _, rfl, Below.refl _ _⟩
  case round =>
    obtain ⟨k, hk, rfl, hbel⟩ := hrel
    by_cases hlt : k < n
    · have hlti : (k : Int) < (n : Int) := by omega
      have hki : (0 : Int) ≤ (k : Int) := by omega
      have c0 := HR1.out k hlt
      have d0 := HR2.out k hlt
      rw [← bcell hbel _ _ hl1] at c0
      rw [← bcell hbel _ _ hl2] at d0
      simp only [rowI] at c0 d0
      go_wp2
      go_big_quiet (fail)
      go_wp2
      go_roundw
      case rel => exact ⟨k + 1, by omega, by go_num, below_drewN hbel _⟩
      case measure => simp [intOf]; omega
    · go_wp2
      go_ret
      exact ⟨rfl, hbel⟩
set_option maxHeartbeats 400000 in
theorem eqInt64S_none (c1 c2 : Nat) (a1 a2 : Option Addr) (w : World) :
    Calls Try.prog 17 #[.slice a1 0 c1, .slice a2 0 c2] w fun e w' => e = .returned (.bool true) ∧ Below w.heap.size w w' := by
  go_enter Try.func17, Try.ntmps17
  go_wp2
  go_loopw [5] (fun i wr => i = .int .i64 0 ∧ w = wr) (fun _ _ => 0)
  case atStart => exact ⟨rfl, rfl⟩
  case round =>
    obtain ⟨rfl, rfl⟩ := hrel
    go_wp2
    go_ret
    exact ⟨rfl, Below.refl _ _⟩

set_option maxHeartbeats 1000000 in
theorem markInt64S_p (g n c M : Nat) (f : Nat → Value) (w : World) (t1 : TypeId) (hn : n ≤ 1048576) (h1 : Part w g t1 M n f) (hm : n ≤ M) :
    Calls Try.prog 19 #[.slice (some ⟨g, 0, none⟩) n c, .int .i64 1] w fun e w' => e = .returned (.int .i64 (1 + (n : Int))) ∧ Part w' g t1 M n marks ∧ w.grownBy w' (some g) := by
  have H1 := Lib.hid h1
  clear h1
  go_enter Try.func19, Try.ntmps19
  go_wp2
  go_loopw [1, 5] (fun v i wr => ∃ (k : Nat), k ≤ n ∧ i = .int .i64 k ∧ v = .int .i64 (1 + (k : Int)) ∧ Part wr g t1 M k marks ∧ w.grownBy wr (some g)) (fun _ i _ => n - (intOf i).toNat)
  case atStart => exact ⟨0, Nat.zero_le _, rfl, rfl, H1.out.none, World.grownBy.refl _ _⟩
  case round =>
    obtain ⟨k, hk, rfl, rfl, hpart, hg⟩ := hrel
    by_cases hlt : k < n
    · have hlti : (k : Int) < (n : Int) := by omega
      have hki : (0 : Int) ≤ (k : Int) := by omega
      obtain ⟨v0, d0⟩ := hpart.cell (i := k) (by omega)
      have f0 := hpart.frozen k
      have HP := Lib.hid hpart
      have HG := Lib.hid hg
      clear hpart hg
      go_wp2
      go_roundw
      case rel => exact ⟨k + 1, by omega, by go_num, by go_num, HP.out.put rfl rfl, grown_set HG.out _ _⟩
      case measure => simp [intOf]; omega
    · obtain rfl : k = n := by omega
      go_wp2
      go_ret
      exact ⟨rfl, hpart, hg⟩
set_option maxHeartbeats 400000 in
theorem markInt64S_none (c : Nat) (a : Option Addr) (w : World) :
    Calls Try.prog 19 #[.slice a 0 c, .int .i64 1] w fun e w' => e = .returned (.int .i64 1) ∧ w = w' := by
  go_enter Try.func19, Try.ntmps19
  go_wp2
  go_loopw [1, 5] (fun v i wr => i = .int .i64 0 ∧ v = .int .i64 1 ∧ w = wr) (fun _ _ _ => 0)
  case atStart => exact ⟨rfl, rfl, rfl⟩
  case round =>
    obtain ⟨rfl, rfl, rfl⟩ := hrel
    go_wp2
    go_ret
    exact ⟨rfl, rfl⟩
set_option maxHeartbeats 1000000 in
theorem heldInt64S_p (g n c M : Nat) (w : World) (t1 : TypeId) (hn : n ≤ 1048576) (h1 : Part w g t1 M n marks) (hm : n ≤ M) :
    Calls Try.prog 20 #[.slice (some ⟨g, 0, none⟩) n c, .int .i64 1] w fun e w' => e = .returned (.int .i64 (1 + (n : Int))) ∧ Below w.heap.size w w' := by
  have hl1 := h1.lt
  have HR1 := Lib.hid (fun i (hi : i < n) => h1.at hi hm)
  clear h1
  go_enter Try.func20, Try.ntmps20
  go_wp2
  go_loopw [1, 5] (fun v i wr => ∃ (k : Nat), k ≤ n ∧ i = .int .i64 k ∧ v = .int .i64 (1 + (k : Int)) ∧ w = wr) (fun _ i _ => n - (intOf i).toNat)
  case atStart => exact ⟨0, Nat.zero_le _, rfl, rfl, rfl⟩
  case round =>
    obtain ⟨k, hk, rfl, rfl, rfl⟩ := hrel
    by_cases hlt : k < n
    · have hlti : (k : Int) < (n : Int) := by omega
      have hki : (0 : Int) ≤ (k : Int) := by omega
      have c0 := HR1.out k hlt
      simp only [marks] at c0
      go_wp2
      go_roundw
      case rel => exact ⟨k + 1, by omega, by go_num, by go_num, by first | rfl | trivial⟩
      case measure => simp [intOf]; omega
    · obtain rfl : k = n := by omega
      go_wp2
      go_ret
      exact ⟨rfl, Below.refl _ _⟩
set_option maxHeartbeats 400000 in
theorem heldInt64S_none (c : Nat) (a : Option Addr) (w : World) :
    Calls Try.prog 20 #[.slice a 0 c, .int .i64 1] w fun e w' => e = .returned (.int .i64 1) ∧ Below w.heap.size w w' := by
  go_enter Try.func20, Try.ntmps20
  go_wp2
  go_loopw [1, 5] (fun v i wr => i = .int .i64 0 ∧ v = .int .i64 1 ∧ w = wr) (fun _ _ _ => 0)
  case atStart => exact ⟨rfl, rfl, rfl⟩
  case round =>
    obtain ⟨rfl, rfl, rfl⟩ := hrel
    go_wp2
    go_ret
    exact ⟨rfl, Below.refl _ _⟩
end Go.Proofs.Ytnfdodgecbibjaa
