/- Slices of 64-bit integers that came in: opened, copied, compared. -/
import Derived.Test.YtllmillhdmknpaaOpen
namespace Go.Proofs.Ytllmillhdmknpaa
open Go.ChangeShapes Go.WideShapes Go.ChangeAt Go.RowKit Go.Deep
set_option linter.unusedVariables false

/-- A row of integers. -/
def rowInts (z : Nat → Int) (j : Nat) : Value := .int .i64 (z j)
def RdInts (w : World) (b off n : Nat) (z : Nat → Int) : Prop := ∀ i, i < n → w.cell? ⟨b, off + i, none⟩ = some (.int .i64 (z i))
theorem RdInts.of_row {w : World} {g n : Nat} {t : TypeId} {z : Nat → Int} (h : w.rowIs g t n (rowInts z)) : RdInts w g 0 n z := by
  intro i hi
  have e := h.cell hi
  simpa [rowInts] using e
/-- A slice of integers that came in. -/
def InInts (w : World) (a : Option Addr) (n : Nat) (z : Nat → Int) : Prop := (n = 0 ∨ ∃ b off, a = some ⟨b, off, none⟩ ∧ b < w.heap.size ∧ RdInts w b off n z) ∧ n ≤ maxLen ∧ ∀ i, i < n → (Lit.int .i64 (z i)).wf = true
theorem InInts.below {w w' : World} {a : Option Addr} {n : Nat} {z : Nat → Int} (h : InInts w a n z) (hb : Below w.heap.size w w') : InInts w' a n z := by
  obtain ⟨h1, h2⟩ := h
  refine ⟨?_, h2⟩
  rcases h1 with h1 | ⟨b, off, rfl, hbl, hr⟩
  · exact .inl h1
  · exact .inr ⟨b, off, rfl, Nat.lt_of_lt_of_le hbl hb.size, fun i hi => (bcell hb _ _ hbl).trans (hr i hi)⟩
theorem inInts_of {H : Type} {enc : TypeId × Value → H} {w : World} {base : Nat} {spare : Nat → Bool} {held : Bool} {fuel n c : Nat} {a : Option Addr} {x : DataW H × List MemPlace}
    (h : DataW.trod enc Try.prog w base spare held fuel 38 [.slice a n c] = some x) : ∃ z, InInts w a n z := by
  rcases open_ints Try.underlying38 Try.underlying2 (by kernel_rfl) h with ⟨hcs, _⟩ | ⟨ad, l, c', zs, hcs, _, hl, hm, hz, _, hcell, hwz⟩
  · simp at hcs
    obtain ⟨rfl, rfl, rfl⟩ := hcs
    exact ⟨fun _ => 0, .inl rfl, by unfold maxLen; omega, fun i hi => absurd hi (by omega)⟩
  · simp at hcs
    obtain ⟨rfl, rfl, rfl⟩ := hcs
    have hlen : ∀ i, i < n → i < zs.length := fun i hi => by have := hz; split at this <;> omega
    by_cases hn : n = 0
    · exact ⟨fun _ => 0, .inl hn, by unfold maxLen at *; omega, fun i hi => absurd hi (by omega)⟩
    obtain ⟨b, off, spot⟩ := ad
    have h0 := hcell 0 (hlen 0 (by omega))
    have hspot : spot = none := by simpa [Addr.add] using World.cell?_spot h0
    subst hspot
    have hadd : ∀ q, (Addr.add ⟨b, off, none⟩ q : Addr) = ⟨b, off + q, none⟩ := by
      intro q; unfold Addr.add; split
      · rename_i h0; rw [h0]; rfl
      · rfl
    refine ⟨fun i => zs.getD i 0, .inr ⟨b, off, rfl, lt_of_cell (by rw [hadd] at h0; exact h0), fun i hi => ?_⟩, by unfold maxLen at *; omega, fun i hi => ?_⟩
    · have := hcell i (hlen i hi)
      rw [hadd] at this
      exact this
    · have hm2 : zs.getD i 0 ∈ zs := by
        rw [List.getD_eq_getElem?_getD, List.getElem?_eq_getElem (hlen i hi)]
        exact List.getElem_mem _
      exact hwz _ hm2

/-- What the copy of a slice of integers hands back. -/
def ToIntsPost (n : Nat) (z : Nat → Int) (w : World) (e : Ending) (w' : World) : Prop := e = .returned (.slice (some ⟨w.heap.size, 0, none⟩) n n) ∧ w'.rowIs w.heap.size 2 n (rowInts z) ∧ Below w.heap.size w w'
theorem infoInts : (Try.prog.info? 2).map (fun i => (i.zero, i.size, i.bytes)) = some (some (.int .i64 0), 1, 8) := by kernel_rfl
set_option maxHeartbeats 1000000 in
theorem toInt64S_any (b off n c : Nat) (z : Nat → Int) (w : World) (hb : b < w.heap.size) (hn : n ≤ 1048576) (hr : RdInts w b off n z) :
    Calls Try.prog 144 #[.slice (some ⟨b, off, none⟩) n c] w (ToIntsPost n z w) := by
  have HR := Lib.hid hr
  clear hr
  obtain ⟨i0, hi, hz0, hz1, hz2⟩ := info_parts infoInts
  have hmk := fun W => run_make_rowN (P := Try.prog) 38 2 i0 _ Try.underlying38 hi hz0 .i64 .i64 n n (Nat.le_refl _) (by rw [hz2]; omega) (by omega) W
  rw [hz1] at hmk
  clear hi hz0 hz1 hz2
  go_enter Try.func144, Try.ntmps144
  go_wp2
  clear hmk
  go_loopw [4] (fun i wr => ∃ (k : Nat), k ≤ n ∧ i = .int .i64 k ∧ Below w.heap.size w wr ∧ Part wr w.heap.size 2 n k (rowInts z)) (fun i _ => n - (intOf i).toNat)
  case atStart => exact ⟨0, Nat.zero_le _, rfl, below_new _ _, by simpa using Part.made w #[.int .i64 0] n 2 (rowInts z)⟩
  case round =>
    obtain ⟨k, hk, rfl, hbel, hpart⟩ := hrel
    by_cases hlt : k < n
    · have c0 := HR.out k hlt
      rw [← bcell hbel _ _ hb] at c0
      obtain ⟨v0, d0⟩ := hpart.cell (i := k) hlt
      have f0 := hpart.frozen k
      have HP := Lib.hid hpart
      clear hpart
      go_wp2
      go_roundw
      case rel => exact ⟨k + 1, by omega, by go_num, hbel.setCell (by simp) _, HP.out.put rfl rfl⟩
      case measure => simp [intOf]; omega
    · obtain rfl : k = n := by omega
      go_wp2
      go_ret
      exact ⟨rfl, hpart.whole, hbel⟩
set_option maxHeartbeats 400000 in
theorem toInt64S_nil (ad : Option Addr) (c : Nat) (z : Nat → Int) (w : World) :
    Calls Try.prog 144 #[.slice ad 0 c] w (ToIntsPost 0 z w) := by
  have hmk : ∀ W : World, (Instr.makeSlice 38 (.int .i64 0) (.int .i64 0)).run Try.prog W = .ok (.slice (some ⟨W.heap.size, 0, none⟩) 0 0) (W.alloc (.cells #[] 2)) := fun _ => by kernel_rfl
  go_enter Try.func144, Try.ntmps144
  go_wp2
  clear hmk
  go_loopw [4] (fun i wr => i = .int .i64 0 ∧ wr = w.alloc (.cells #[] 2)) (fun _ _ => 0)
  case atStart => exact ⟨rfl, rfl⟩
  case round =>
    obtain ⟨rfl, rfl⟩ := hrel
    go_wp2
    go_ret
    exact ⟨rfl, by simpa using World.rowIs_alloc w #[] 2 _ (fun i hi => absurd hi (by simp)), below_new _ _⟩
theorem toInt64S_in (a : Option Addr) (n c : Nat) (z : Nat → Int) (w : World) (h : InInts w a n z) (hm : n ≤ 1048576) :
    Calls Try.prog 144 #[.slice a n c] w (ToIntsPost n z w) := by
  obtain ⟨h1, _⟩ := h
  rcases h1 with rfl | ⟨b, off, rfl, hbl, hr⟩
  · exact toInt64S_nil a c z w
  · exact toInt64S_any b off n c z w hbl hm hr
set_option maxHeartbeats 1000000 in
theorem eqInt64S_any (g1 g2 n : Nat) (z : Nat → Int) (w : World) (t1 t2 : TypeId) (hn : n ≤ 1048576) (h1 : w.rowIs g1 t1 n (rowInts z)) (h2 : w.rowIs g2 t2 n (rowInts z)) :
    Calls Try.prog 146 #[.slice (some ⟨g1, 0, none⟩) n n, .slice (some ⟨g2, 0, none⟩) n n] w fun e w' => e = .returned (.bool true) ∧ Below w.heap.size w w' := by
  have hl1 := h1.lt
  have hl2 := h2.lt
  have HR1 := Lib.hid (RdInts.of_row h1)
  have HR2 := Lib.hid (RdInts.of_row h2)
  clear h1 h2
  go_enter Try.func146, Try.ntmps146
  go_wp2
  go_loopw [5] (fun i wr => ∃ (k : Nat), k ≤ n ∧ i = .int .i64 k ∧ Below w.heap.size w wr) (fun i _ => n - (intOf i).toNat)
  case atStart => exact ⟨0, Nat.zero_le _, rfl, Below.refl _ _⟩
  case round =>
    obtain ⟨k, hk, rfl, hbel⟩ := hrel
    by_cases hlt : k < n
    · have hlti : (k : Int) < (n : Int) := by omega
      have hki : (0 : Int) ≤ (k : Int) := by omega
      have c0 := HR1.out k hlt
      have d0 := HR2.out k hlt
      rw [← bcell hbel _ _ hl1] at c0
      rw [← bcell hbel _ _ hl2] at d0
      simp only [Nat.zero_add] at c0 d0
      go_wp2
      go_big_quiet (fail)
      go_wp2
      go_roundw
      case rel => exact ⟨k + 1, by omega, by go_num, below_drewN hbel _⟩
      case measure => simp [intOf]; omega
    · go_wp2
      go_ret
      exact ⟨rfl, hbel⟩
end Go.Proofs.Ytllmillhdmknpaa
