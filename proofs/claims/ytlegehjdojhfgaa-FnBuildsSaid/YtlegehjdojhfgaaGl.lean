/- Goods that are drawn, part 5: the list of goods. No statement of the program is proved here. -/
import Derived.Test.YtlegehjdojhfgaaGs
import Derived.OwnWalk
import Derived.Deep.AppendLies
namespace Go.Proofs.Ytlegehjdojhfgaa
open Go.RowKit
set_option linter.unusedVariables false

theorem from_any (n c : Nat) (a : Option Addr) (w : World) :
    Calls Try.prog 11 #[.slice a n c] w fun e w' => e = .returned (.pointer (some ⟨w.heap.size, 0, none⟩)) ∧ w.alloc (.cells #[.slice a n c, .int .i64 0, .int .u64 0] 49) = w' := by
  go_enter Try.func11, Try.ntmps11
  go_wp2
  go_ret
  exact ⟨rfl, rfl⟩
theorem from_src (n c : Nat) (a : Option Addr) (w : World) : Src (w.alloc (.cells #[.slice a n c, .int .i64 0, .int .u64 0] 49)) w.heap.size a n c 0 :=
  ⟨0, World.rowIs_alloc w #[.slice a n c, .int .i64 0, .int .u64 0] 49 _ (fun j hj => by
    match j, hj with
    | 0, _ => rfl
    | 1, _ => rfl
    | 2, _ => rfl)⟩

/-- One more. -/
def upd {A : Type} (f : Nat → A) (m : Nat) (v : A) (j : Nat) : A := if j = m then v else f j
theorem upd_at {A : Type} (f : Nat → A) (m : Nat) (v : A) : upd f m v m = v := by unfold upd; rw [if_pos rfl]
theorem upd_old {A : Type} (f : Nat → A) {m j : Nat} (v : A) (h : j < m) : upd f m v j = f j := by unfold upd; rw [if_neg (by omega)]

theorem Goods.none (X : Nat → Nat) (C L Q : Nat → Int) : Goods 0 X C L Q :=
  ⟨by omega, fun i hi => by omega, fun i j h hj => by omega, fun i hi => by omega, fun i hi => by omega, fun i hi => by omega⟩
theorem Goods.snoc {m : Nat} {X : Nat → Nat} {C L Q : Nat → Int} (h : Goods m X C L Q) {k c l q : Nat} (hm : m < 5) (hk : k < 5) (hX : ∀ j, j < m → X j < k) (hc : c < 40) (hl : l < 40) (hq : q < 60) :
    Goods (m + 1) (upd X m k) (upd C m (c : Int)) (upd L m (l : Int)) (upd Q m (50 * (q : Int))) := by
  refine ⟨by omega, fun i hi => ?_, fun i j hij hj => ?_, fun i hi => ?_, fun i hi => ?_, fun i hi => ?_⟩
  · by_cases e : i = m
    · rw [e, upd_at]; exact hk
    · rw [upd_old _ _ (by omega)]; exact h.x5 i (by omega)
  · by_cases e : j = m
    · rw [e, upd_at, upd_old _ _ (by omega)]; exact hX i (by omega)
    · rw [upd_old _ _ (by omega), upd_old _ _ (by omega)]; exact h.up i j hij (by omega)
  · by_cases e : i = m
    · rw [e, upd_at]; omega
    · rw [upd_old _ _ (by omega)]; exact h.c i (by omega)
  · by_cases e : i = m
    · rw [e, upd_at]; omega
    · rw [upd_old _ _ (by omega)]; exact h.l i (by omega)
  · by_cases e : i = m
    · rw [e, upd_at]; omega
    · rw [upd_old _ _ (by omega)]; exact h.q i (by omega)

/-- The cells of a list of goods. -/
def gcells (m : Nat) (X : Nat → Nat) (C L Q : Nat → Int) : List Value := (List.range (m * 4)).map (flat 4 (rowGood (fun i => nm (X i)) C L Q))
theorem gcells_snoc (m : Nat) (X : Nat → Nat) (C L Q : Nat → Int) (k : Nat) (c l q : Int) :
    gcells (m + 1) (upd X m k) (upd C m c) (upd L m l) (upd Q m q) = gcells m X C L Q ++ [.string (nm k), .int .i64 c, .int .i64 l, .int .i64 q] := by
  unfold gcells
  rw [show (m + 1) * 4 = m * 4 + 4 by omega]
  have h : (List.range (m * 4 + 4)).map (flat 4 (rowGood (fun i => nm (upd X m k i)) (upd C m c) (upd L m l) (upd Q m q))) = (List.range (m * 4)).map (flat 4 (rowGood (fun i => nm (upd X m k i)) (upd C m c) (upd L m l) (upd Q m q))) ++ [flat 4 (rowGood (fun i => nm (upd X m k i)) (upd C m c) (upd L m l) (upd Q m q)) (m * 4), flat 4 (rowGood (fun i => nm (upd X m k i)) (upd C m c) (upd L m l) (upd Q m q)) (m * 4 + 1), flat 4 (rowGood (fun i => nm (upd X m k i)) (upd C m c) (upd L m l) (upd Q m q)) (m * 4 + 2), flat 4 (rowGood (fun i => nm (upd X m k i)) (upd C m c) (upd L m l) (upd Q m q)) (m * 4 + 3)] := by
    simp [List.range_succ]
  rw [h, flat_at0 4 _ _ (by omega), flat_at 4 _ _ 1 (by omega), flat_at 4 _ _ 2 (by omega), flat_at 4 _ _ 3 (by omega)]
  simp only [rowGood, upd_at]
  congr 1
  refine List.map_congr_left fun j hj => ?_
  have hj2 : j / 4 < m := by have := List.mem_range.1 hj; omega
  unfold flat
  have e : ∀ r, rowGood (fun i => nm (upd X m k i)) (upd C m c) (upd L m l) (upd Q m q) (j / 4) r = rowGood (fun i => nm (X i)) C L Q (j / 4) r := by
    intro r
    unfold rowGood
    simp only [upd_old _ _ hj2]
  exact e _

theorem own_part {w : World} {base size n g c : Nat} {e : TypeId} {xs : List Value} (h : w.ownsRow base e size (.slice (some ⟨g, 0, none⟩) n c) n xs) (f : Nat → Value) (hf : ∀ i, i < n * size → xs[i]? = some (f i)) : Part w g e (c * size) (n * size) f ∧ n * size ≤ c * size := by
  rcases h.2 with ⟨h0, _⟩ | ⟨g2, cap, cur, hv, _, hh, hc, _, hs, ht⟩
  · simp at h0
  · simp only [Value.slice.injEq, Option.some.injEq, Addr.mk.injEq, and_true, true_and] at hv
    obtain ⟨rfl, rfl⟩ := hv
    have hle : n * size ≤ c * size := Nat.mul_le_mul_right _ hc
    refine ⟨⟨fun i => (cur[i]?).getD default, ⟨cur, hh, hs, fun i hi => ?_⟩, fun i hi => ?_⟩, hle⟩
    · show cur[i]? = some ((cur[i]?).getD default)
      rw [Array.getElem?_eq_getElem (by omega)]
      rfl
    · have e := hf i hi
      rw [← ht, List.getElem?_take, if_pos hi, Array.getElem?_toList] at e
      show (cur[i]?).getD default = f i
      rw [e]
      rfl
theorem own_good {w : World} {base m g c : Nat} {X : Nat → Nat} {C L Q : Nat → Int} (h : w.ownsRow base 30 4 (.slice (some ⟨g, 0, none⟩) m c) m (gcells m X C L Q)) : RdGood w g 0 m (fun i => nm (X i)) C L Q ∧ g < w.heap.size := by
  obtain ⟨hp, hc⟩ := own_part h (flat 4 (rowGood (fun i => nm (X i)) C L Q)) (fun i hi => by simp [gcells, hi])
  exact ⟨RdGood.of_part hp hc, hp.lt⟩
theorem four_new (w : World) (a b c d : Value) (t : TypeId) : ∀ (j : Nat) (x : Value), [a, b, c, d][j]? = some x → (w.alloc (.cells #[a, b, c, d] t)).cell? (Addr.add ⟨w.heap.size, 0, none⟩ j) = some x := by
  intro j x hj
  match j, hj with
  | 0, hj => simp at hj; subst hj; simp [Addr.add]
  | 1, hj => simp at hj; subst hj; simp [Addr.add]
  | 2, hj => simp at hj; subst hj; simp [Addr.add]
  | 3, hj => simp at hj; subst hj; simp [Addr.add]
def nmV (j : Nat) : Value := .string (nm j)
theorem infoGood : (Try.prog.info? 30).map (fun i => (i.zero, i.size, i.bytes)) = some (some (.agg #[.string ⟨#[]⟩, .int .i64 0, .int .i64 0, .int .i64 0]), 4, 40) := by kernel_rfl

/-- What a loop of draws keeps. -/
def Drawn (m k : Nat) (X : Nat → Nat) (C L Q : Nat → Int) : Prop := Goods m X C L Q ∧ ∀ j, j < m → X j < k
/-- A list of goods that was drawn, in memory made since the world w0. -/
def GoodsPost (w0 : World) (B : Nat) (e : Ending) (w' : World) : Prop := ∃ g m cap X C L Q, e = .returned (.slice (some ⟨g, 0, none⟩) m cap) ∧ Goods m X C L Q ∧ B ≤ g ∧ g < w'.heap.size ∧ RdGood w' g 0 m (fun i => nm (X i)) C L Q ∧ Below w0.heap.size w0 w'

set_option maxHeartbeats 4000000 in
theorem draw_any (s n c : Nat) (a : Option Addr) (z : Nat → Int) (w0 w : World) (h0 : InBytes w0 a n z) (hm : n ≤ 1048576) (hB : Below w0.heap.size w0 w) (hsB : w0.heap.size ≤ s) (hs : Src w s a n c 0) :
    Calls Try.prog 12 #[.pointer (some ⟨s, 0, none⟩)] w (GoodsPost w0 w.heap.size) := by
  obtain ⟨i0, hi, hz0, hz1, hz2⟩ := info_parts infoGood
  have H0 := Lib.hid h0
  have HS := Lib.hid hs
  have hsl := hs.lt
  have hBs := hB.size
  clear h0 hs
  go_enter Try.func12, Try.ntmps12
  go_wp2
  go_loopw [4, 5] (fun v i wr => ∃ (k m g cap : Nat) (X : Nat → Nat) (C L Q : Nat → Int) (t : Nat), k ≤ 5 ∧ m ≤ k ∧ t ≤ 4 * k ∧ v = .slice (some ⟨g, 0, none⟩) m cap ∧ i = .int .i64 k ∧ Drawn m k X C L Q ∧ wr.ownsRow (w.heap.size + 1) 30 4 (.slice (some ⟨g, 0, none⟩) m cap) m (gcells m X C L Q) ∧ Src wr s a n c t ∧ wr.rowIs w.heap.size 9 5 nmV ∧ Below w0.heap.size w0 wr) (fun _ i _ => 5 - (intOf i).toNat)
  case atStart =>
    have hb1 : Below w0.heap.size w0 (w.alloc (.cells #[nmV 0, nmV 1, nmV 2, nmV 3, nmV 4] 9)) := hB.alloc hBs _
    exact ⟨0, 0, _, _, fun _ => 0, fun _ => 0, fun _ => 0, fun _ => 0, 0, by omega, by omega, by omega, rfl, rfl, ⟨Goods.none _ _ _ _, fun j hj => by omega⟩, by simpa [gcells, nmV, nm] using World.ownsRow_lit (base := w.heap.size + 1) (size := 4) (e := 30) (w.alloc (.cells #[nmV 0, nmV 1, nmV 2, nmV 3, nmV 4] 9)) #[] 0 (by simp) (by decide) rfl,
      (HS.out.other (r := none) (World.grownBy_alloc _ _ _) (by simp)).other (r := none) (World.grownBy_alloc _ _ _) (by simp),
      (World.rowIs_alloc w #[nmV 0, nmV 1, nmV 2, nmV 3, nmV 4] 9 _ (fun j hj => by
        match j, hj with
        | 0, _ => rfl
        | 1, _ => rfl
        | 2, _ => rfl
        | 3, _ => rfl
        | 4, _ => rfl)).alloc _, hb1.alloc hb1.size _⟩
  case round =>
    obtain ⟨k, m, g, cap, X, C, L, Q, t, hk, hmk, ht, rfl, rfl, hD, hown, hs1, hnr, hbel⟩ := hrel
    have HD := Lib.hid hD
    have HO := Lib.hid hown
    have hlt := hown.lt g rfl
    have HN := Lib.hid hnr
    clear hD hown hnr HS
    by_cases hk5 : k < 5
    · have hki : (0 : Int) ≤ (k : Int) := by omega
      have hk5i : (k : Int) < 5 := by omega
      go_wp2_with fail
      refine (pick_any s n c t 3 a z wr (H0.out.below hbel) hm (by omega) hs1 (by omega) (by omega)).mono ?_
      rintro e w1 ⟨v1, hv1, rfl, hs2, hg1⟩
      have hB1 := below_mark hbel hg1 hsB
      have HO1 := Lib.hid (HO.out.kept hg1 (.inr (by simp [Value.ownBlock]; omega)))
      have HN1 := Lib.hid (row_other HN.out hg1 (by omega))
      clear HO HN
      by_cases hv0 : v1 = 0
      · subst hv0
        have hd0 : decide (((0 : Nat) : Int) > 0) = false := by decide
        go_wp2
        go_roundw
        case rel => exact ⟨k + 1, m, g, cap, X, C, L, Q, t + 1, by omega, by omega, by omega, rfl, by go_num, ⟨HD.out.1, fun j hj => Nat.lt_succ_of_lt (HD.out.2 j hj)⟩, HO1.out, hs2, HN1.out, hB1⟩
        case measure => simp [intOf]; omega
      · have hv2 : (0 : Int) < (v1 : Int) := by omega
        have ck : w1.cell? ⟨w.heap.size, k, none⟩ = some (.string (nm k)) := HN1.out.cell hk5
        go_wp2_with fail
        refine (drawOne_any s n c (t + 1) a z w0 w1 H0.out hm hB1 hsB (by omega) hs2 (nm k)).mono ?_
        rintro e w2 ⟨c1, l1, q1, hc1, hl1, hq1, rfl, hs3, hg2⟩
        have hB2 := below_mark hB1 hg2 hsB
        have HO2 := Lib.hid (HO1.out.kept hg2 (.inr (by simp [Value.ownBlock]; omega)))
        have HN2 := Lib.hid (row_other HN1.out hg2 (by omega))
        have hlt2 := HO2.out.lt g rfl
        have hBs2 := hB2.size
        have hm5 : m < 5 := by omega
        have HX := Lib.hid (gcells_snoc m X C L Q k (c1 : Int) (l1 : Int) (50 * (q1 : Int)))
        clear HO1 HN1 ck
        go_wp2_with (at_builtin; refine wpList_append_lies _ rfl _ _ 24 rfl (w.heap.size + 1) 30 i0 (.agg #[.string ⟨#[]⟩, .int .i64 0, .int .i64 0, .int .i64 0]) 4 40 Try.underlying24 hi hz0 hz1 hz2 rfl (by decide) _ _ _ rfl (HO2.out.alloc _) ⟨w2.heap.size, 0, none⟩ 1 1 [.string (nm k), .int .i64 (c1 : Int), .int .i64 (l1 : Int), .int .i64 (50 * (q1 : Int))] rfl rfl (four_new _ _ _ _ _ _) ?c2 (by decide) ?c3 ?c4 ?c5 _ rfl ?_)
        case c2 => intro u hu; simp at hu; rcases hu with rfl | rfl | rfl | rfl <;> rfl
        case c3 => unfold maxLen; omega
        case c4 => omega
        case c5 => simp; omega
        · intro g2 cap2 w3 hown3 hgrow0 _ _
          have hgrow : World.grownBy _ w3 (some g) := hgrow0
          have hB3 := below_mark (hB2.alloc hBs2 _) hgrow (by omega)
          have hs4 := (hs3.other (r := none) (World.grownBy_alloc _ _ _) (by simp)).other hgrow (by simp; omega)
          have HN3 := Lib.hid (row_other (HN2.out.alloc _) hgrow (by omega))
          have HO3 := Lib.hid hown3
          clear hown3 hgrow0 hgrow HN2 HO2
          go_wp2
          go_roundw
          case rel => exact ⟨k + 1, m + 1, g2, cap2, upd X m k, upd C m (c1 : Int), upd L m (l1 : Int), upd Q m (50 * (q1 : Int)), t + 1 + 3, by omega, by omega, by omega, rfl, by go_num, ⟨HD.out.1.snoc hm5 hk5 HD.out.2 hc1 hl1 hq1, fun j hj => by
            by_cases e : j = m
            · rw [e, upd_at]; omega
            · rw [upd_old _ _ (by omega)]; exact Nat.lt_succ_of_lt (HD.out.2 j (by omega))⟩, by rw [HX.out]; exact HO3.out, hs4, HN3.out, hB3⟩
          case measure => simp [intOf]; omega
    · obtain rfl : k = 5 := by omega
      obtain ⟨hrd, hgl⟩ := own_good HO.out
      have HR := Lib.hid hrd
      clear hrd HN
      go_wp2
      go_ret
      exact ⟨g, m, cap, X, C, L, Q, rfl, HD.out.1, by omega, hgl, HR.out, hbel⟩
end Go.Proofs.Ytlegehjdojhfgaa
