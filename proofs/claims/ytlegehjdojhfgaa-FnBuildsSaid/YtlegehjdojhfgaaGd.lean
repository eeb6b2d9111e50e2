/- Goods that are drawn, part 1: bytes that choose numbers, the source of choices. No statement of the program is proved here. -/
import Derived.Test.YtlegehjdojhfgaaSmall
import Derived.Test.YtlegehjdojhfgaaOwn
import Derived.Test.YtlegehjdojhfgaaOpen
import Derived.Laws.BitsAllLaws
namespace Go.Proofs.Ytlegehjdojhfgaa
open Go.ChangeShapes Go.WideShapes Go.ChangeAt Go.RowKit Go.Deep
set_option linter.unusedVariables false
section
variable {w w' : World} {g g2 M k : Nat} {t : TypeId} {f : Nat → Value}
theorem Part.at (h : Part w g t M k f) {i : Nat} (hi : i < k) (hM : k ≤ M) : w.cell? ⟨g, i, none⟩ = some (f i) := by
  obtain ⟨h', hr, hf⟩ := h
  rw [← hf i hi]
  exact hr.cell (by omega)
theorem Part.other (h : Part w g t M k f) (hg : w.grownBy w' (some g2)) (hne : g ≠ g2) : Part w' g t M k f := by
  have hl := h.lt
  obtain ⟨h', hr, hf⟩ := h
  exact ⟨h', hr.of_block (hg.block g hl (by simpa using hne)), hf⟩
theorem Part.none (h : Part w g t M k f) {f' : Nat → Value} : Part w g t M 0 f' := by
  obtain ⟨h', hr, hf⟩ := h
  exact ⟨h', hr, fun i hi => absurd hi (by omega)⟩
theorem Part.same (h : Part w g t M k f) {f' : Nat → Value} (he : ∀ i, i < k → f i = f' i) : Part w g t M k f' := by
  obtain ⟨h', hr, hf⟩ := h
  exact ⟨h', hr, fun i hi => (hf i hi).trans (he i hi)⟩
theorem Part.of_row (h : w.rowIs g t M f) : Part w g t M M f := ⟨f, h, fun _ _ => rfl⟩
theorem row_other (h : w.rowIs g t M f) (hg : w.grownBy w' (some g2)) (hne : g ≠ g2) : w'.rowIs g t M f := h.of_block (hg.block g h.lt (by simpa using hne))
theorem grown_set (h : w.grownBy w' (some g)) (j : Nat) (v : Value) : w.grownBy (w'.setCell ⟨g, j, none⟩ v) (some g) :=
  ⟨h.os, h.tape, h.output, by simpa [World.setCell] using h.size, fun k hk hne => by
    rw [← h.block k hk hne]
    have : g ≠ k := fun e => hne (by rw [e])
    simp [World.setCell, Array.getElem?_modify, this]⟩
theorem below_mark {B : Nat} {a : World} (h : Below B a w) (hg : w.grownBy w' (some g)) (hB : B ≤ g) (hBs : B ≤ a.heap.size := by exact Nat.le_refl _) : Below B a w' :=
  h.grown hg (Nat.le_trans hBs h.size) (fun k hk => by simp at hk; omega)
end

/-- A slice of bytes that came in. -/
def InBytes (w : World) (a : Option Addr) (n : Nat) (z : Nat → Int) : Prop := (n = 0 ∨ ∃ b off, a = some ⟨b, off, none⟩ ∧ b < w.heap.size ∧ ∀ i, i < n → w.cell? ⟨b, off + i, none⟩ = some (.int .u8 (z i)) ∧ 0 ≤ z i ∧ z i ≤ 255) ∧ n ≤ maxLen

theorem InBytes.below {w w' : World} {a : Option Addr} {n : Nat} {z : Nat → Int} (h : InBytes w a n z) (hb : Below w.heap.size w w') : InBytes w' a n z := by
  obtain ⟨h1, h2⟩ := h
  refine ⟨?_, h2⟩
  rcases h1 with h1 | ⟨b, off, rfl, hbl, hr⟩
  · exact .inl h1
  · exact .inr ⟨b, off, rfl, Nat.lt_of_lt_of_le hbl hb.size, fun i hi => ⟨(bcell hb _ _ hbl).trans (hr i hi).1, (hr i hi).2⟩⟩

theorem inBytes_of {H : Type} {enc : TypeId × Value → H} {w : World} {base : Nat} {spare : Nat → Bool} {held : Bool} {fuel n c : Nat} {a : Option Addr} {x : DataW H × List MemPlace}
    (h : DataW.trod enc Try.prog w base spare held fuel 22 [.slice a n c] = some x) : ∃ z, InBytes w a n z := by
  rcases open_ints Try.underlying22 Try.underlying5 (by kernel_rfl) h with ⟨hcs, _⟩ | ⟨ad, l, c2, zs, hcs, _, hl, hm, hz, _, hcell, hwz⟩
  · simp at hcs
    obtain ⟨rfl, rfl, rfl⟩ := hcs
    exact ⟨fun _ => 0, .inl rfl, by unfold maxLen; omega⟩
  · simp at hcs
    obtain ⟨rfl, rfl, rfl⟩ := hcs
    have hlen : ∀ i, i < n → i < zs.length := fun i hi => by have := hz; split at this <;> omega
    by_cases hn : n = 0
    · exact ⟨fun _ => 0, .inl hn, by unfold maxLen at *; omega⟩
    obtain ⟨b, off, spot⟩ := ad
    have h0 := hcell 0 (hlen 0 (by omega))
    have hspot : spot = none := by simpa [Addr.add] using World.cell?_spot h0
    subst hspot
    have hadd : ∀ q, (Addr.add ⟨b, off, none⟩ q : Addr) = ⟨b, off + q, none⟩ := by
      intro q; unfold Addr.add; split
      · rename_i h0; rw [h0]; rfl
      · rfl
    refine ⟨fun i => zs.getD i 0, .inr ⟨b, off, rfl, lt_of_cell (by rw [hadd] at h0; exact h0), fun i hi => ?_⟩, by unfold maxLen at *; omega⟩
    have h1 := hcell i (hlen i hi)
    rw [hadd] at h1
    have hm2 : zs.getD i 0 ∈ zs := by
      rw [List.getD_eq_getElem?_getD, List.getElem?_eq_getElem (hlen i hi)]
      exact List.getElem_mem _
    have hw := hwz _ hm2
    have hb : (0 : Int) ≤ zs.getD i 0 ∧ zs.getD i 0 ≤ 255 := by
      have e1 : IntKind.u8.min = 0 := rfl
      have e2 : IntKind.u8.max = 255 := rfl
      have h2 : IntKind.u8.min ≤ zs.getD i 0 ∧ zs.getD i 0 ≤ IntKind.u8.max := by simpa [Lit.wf] using hw
      rw [e1, e2] at h2
      exact h2
    exact ⟨h1, hb⟩

set_option maxHeartbeats 1000000 in
theorem r8At_any (a : Option Addr) (n c k N : Nat) (z : Nat → Int) (w : World) (h : InBytes w a n z) (hm : n ≤ 1048576) (hN : 1 ≤ N) (hN2 : N ≤ 1000) (hk : k ≤ 1000) :
    Calls Try.prog 6 #[.slice a n c, .int .i64 (k : Int), .int .i64 (N : Int)] w fun e w' => ∃ v : Nat, v < N ∧ e = .returned (.int .i64 (v : Int)) ∧ w = w' := by
  obtain ⟨h1, _⟩ := h
  by_cases hn1 : (N : Int) ≤ 1
  · go_enter Try.func6, Try.ntmps6
    go_wp2
    go_ret
    exact ⟨0, by omega, rfl, rfl⟩
  have hn1d : decide ((N : Int) ≤ 1) = false := by simp; omega
  have hn2 : (1 : Int) < (N : Int) := by omega
  by_cases hkn : n ≤ k
  · have hkn2 : (n : Int) ≤ (k : Int) := by omega
    clear h1
    go_enter Try.func6, Try.ntmps6
    go_wp2
    go_ret
    exact ⟨0, by omega, rfl, rfl⟩
  have hki : (k : Int) < (n : Int) := by omega
  have hkd : decide (n ≤ k) = false := by simp; omega
  have hk0 : (0 : Int) ≤ (k : Int) := by omega
  rcases h1 with rfl | ⟨b, off, rfl, hbl, hr⟩
  · omega
  obtain ⟨c0, z0, z1⟩ := hr k (by omega)
  obtain ⟨q, hq⟩ : ∃ q : Nat, z k = (q : Int) := ⟨(z k).toNat, by omega⟩
  rw [hq] at c0 z0 z1
  clear hr hq hkn hn1
  have HM := Lib.hid (show ((q % N : Nat) : Int) = (q : Int) % (N : Int) from Int.natCast_emod q N)
  have m0 : (0 : Int) ≤ (q : Int) % (N : Int) := Int.emod_nonneg _ (by omega)
  have m1 : (q : Int) % (N : Int) < (N : Int) := Int.emod_lt_of_pos _ (by omega)
  go_enter Try.func6, Try.ntmps6
  go_wp2
  go_ret
  exact ⟨q % N, Nat.mod_lt _ (by omega), by rw [HM.out]; rfl, rfl⟩

/-- The source of choices: its bytes, how many were taken, its seed. -/
def srcRow (a : Option Addr) (n c t : Nat) (q : Int) (j : Nat) : Value := match j with | 0 => .slice a n c | 1 => .int .i64 (t : Int) | _ => .int .u64 q
def Src (w : World) (s : Nat) (a : Option Addr) (n c t : Nat) : Prop := ∃ q, w.rowIs s 49 3 (srcRow a n c t q)
theorem grown_drewN {w w' : World} {r : Option Nat} (h : w.grownBy w' r) (k : Nat) : w.grownBy (w'.drewN k) r := ⟨h.os, h.tape, h.output, h.size, h.block⟩
theorem row_drewN {w : World} {g m : Nat} {t : TypeId} {f : Nat → Value} (h : w.rowIs g t m f) (k : Nat) : (w.drewN k).rowIs g t m f := h

theorem src_step {w : World} {s n c t : Nat} {a : Option Addr} {q : Int} (h : w.rowIs s 49 3 (srcRow a n c t q)) (q' : Int) : Src ((w.setCell ⟨s, 1, none⟩ (.int .i64 ((t : Int) + 1))).setCell ⟨s, 2, none⟩ (.int .u64 q')) s a n c (t + 1) :=
  ⟨q', ((h.set 1 _).set 2 _).congr (fun j hj => by
    match j, hj with
    | 0, _ => rfl
    | 1, _ => simp [srcRow]
    | 2, _ => rfl)⟩
theorem src_drewN {w : World} {s n c t : Nat} {a : Option Addr} (h : Src w s a n c t) (k : Nat) : Src (w.drewN k) s a n c t := h
theorem u64_range (y : Int) : 0 ≤ IntKind.u64.wrap y ∧ IntKind.u64.wrap y < 18446744073709551616 := by
  rw [IntKind.wrap_u64]
  omega
theorem byte_of (y : Int) : ∃ v : Nat, v ≤ 255 ∧ wrap64 (bits .and .u64 (IntKind.u64.wrap y / 1099511627776) 255) = (v : Int) := by
  obtain ⟨h1, h2⟩ := u64_range y
  rw [u64_and _ _ (by omega) (by omega) (by omega) (by omega)]
  refine ⟨(IntKind.u64.wrap y / 1099511627776).toNat &&& (255 : Int).toNat, Nat.and_le_right, ?_⟩
  have h3 : (IntKind.u64.wrap y / 1099511627776).toNat &&& (255 : Int).toNat ≤ 255 := Nat.and_le_right
  unfold wrap64
  omega

set_option maxHeartbeats 2000000 in
theorem next_any (s n c t : Nat) (a : Option Addr) (z : Nat → Int) (w : World) (h : InBytes w a n z) (hm : n ≤ 1048576) (ht : t ≤ 1000) (hs : Src w s a n c t) :
    Calls Try.prog 25 #[.pointer (some ⟨s, 0, none⟩)] w fun e w' => ∃ v : Nat, v ≤ 255 ∧ e = .returned (.int .i64 (v : Int)) ∧ Src w' s a n c (t + 1) ∧ w.grownBy w' (some s) := by
  obtain ⟨q, hr⟩ := hs
  have c0 : w.cell? ⟨s, 0, none⟩ = some (.slice a n c) := hr.cell (i := 0) (by omega)
  have c1 : w.cell? ⟨s, 1, none⟩ = some (.int .i64 (t : Int)) := hr.cell (i := 1) (by omega)
  have c2 : w.cell? ⟨s, 2, none⟩ = some (.int .u64 q) := hr.cell (i := 2) (by omega)
  have f1 := hr.frozen 1
  have f2 := hr.frozen 2
  have HR := Lib.hid hr
  clear hr
  by_cases hlt : t < n
  · obtain ⟨h1, _⟩ := h
    rcases h1 with rfl | ⟨b, off, rfl, hbl, hb⟩
    · omega
    obtain ⟨d0, z0, z1⟩ := hb t hlt
    obtain ⟨v, hv⟩ : ∃ v : Nat, z t = (v : Int) := ⟨(z t).toNat, by omega⟩
    rw [hv] at d0 z0 z1
    clear hb hv
    have hlti : (t : Int) < (n : Int) := by omega
    have hlt2 : (t : Int) + 1 ≤ (n : Int) := by omega
    have hki : (0 : Int) ≤ (t : Int) := by omega
    go_enter Try.func25, Try.ntmps25
    go_wp2
    go_big_quiet (fail)
    go_wp2
    go_big_quiet (fail)
    go_wp2
    go_big_quiet (fail)
    go_wp2
    go_ret
    exact ⟨v, by omega, rfl, src_drewN (src_step (row_drewN HR.out _) _) _, grown_drewN (grown_set (grown_set (grown_drewN (World.grownBy.refl _ _) _) _ _) _ _) _⟩
  · have hl0 : (n : Int) ≤ (t : Int) := by omega
    have hl1 : decide ((t : Int) < (n : Int)) = false := by simp; omega
    have hl2 : decide (t < n) = false := by simp; omega
    have hl3 : decide ((t : Int) + 1 ≤ (n : Int)) = false := by simp; omega
    have hki : (0 : Int) ≤ (t : Int) := by omega
    go_enter Try.func25, Try.ntmps25
    go_wp2
    go_big_quiet (fail)
    go_wp2
    go_big_quiet (fail)
    go_wp2
    obtain ⟨v, hv, ev⟩ := byte_of (IntKind.u64.wrap (IntKind.u64.wrap (q * 6364136223846793005)) + 1442695040888963407)
    rw [ev]
    go_ret
    exact ⟨v, hv, rfl, src_drewN (src_step (row_drewN HR.out _) _) _, grown_drewN (grown_set (grown_set (grown_drewN (World.grownBy.refl _ _) _) _ _) _ _) _⟩


set_option maxHeartbeats 1000000 in
theorem pick_any (s n c t N : Nat) (a : Option Addr) (z : Nat → Int) (w : World) (h : InBytes w a n z) (hm : n ≤ 1048576) (ht : t ≤ 1000) (hs : Src w s a n c t) (hN : 1 < N) (hN2 : N ≤ 200) :
    Calls Try.prog 18 #[.pointer (some ⟨s, 0, none⟩), .int .i64 (N : Int)] w fun e w' => ∃ v : Nat, v < N ∧ e = .returned (.int .i64 (v : Int)) ∧ Src w' s a n c (t + 1) ∧ w.grownBy w' (some s) := by
  have hd1 : decide ((N : Int) ≤ 1) = false := by simp; omega
  have hd2 : decide ((200 : Int) < (N : Int)) = false := by simp; omega
  have hn2 : (1 : Int) < (N : Int) := by omega
  go_enter Try.func18, Try.ntmps18
  go_wp2_with fail
  refine (next_any s n c t a z w h hm ht hs).mono ?_
  rintro e w1 ⟨v, hv, rfl, hs1, hg1⟩
  have HM := Lib.hid (show ((v % N : Nat) : Int) = (v : Int) % (N : Int) from Int.natCast_emod v N)
  have m0 : (0 : Int) ≤ (v : Int) % (N : Int) := Int.emod_nonneg _ (by omega)
  have m1 : (v : Int) % (N : Int) < (N : Int) := Int.emod_lt_of_pos _ (by omega)
  go_wp2
  go_ret
  exact ⟨v % N, Nat.mod_lt _ (by omega), by rw [HM.out]; rfl, hs1, hg1⟩
end Go.Proofs.Ytlegehjdojhfgaa
