/- The contracts of clone and slices.DeleteFunc over visits. -/
import Derived.Test.YtllmillhdmknpaaDel
namespace Go.Proofs.Ytllmillhdmknpaa
open Go.RowKit
attribute [local go_sem ↓] Go.wp_at_zero Go.wp_at_succ
set_option linter.unusedVariables false

theorem row_one (F0 : Nat → Int) (F1 : Nat → ByteArray) (F2 F3 : Nat → Int) (i j : Nat) : (rowVisit F0 F1 F2 F3 i j).oneCell' = true := by
  unfold rowVisit
  split <;> rfl

theorem own_row {w : World} {base size n g : Nat} {e : TypeId} {xs : List Value} (h : w.ownsRow base e size (.slice (some ⟨g, 0, none⟩) n n) n xs) (f : Nat → Value) (hf : ∀ i, i < n * size → xs[i]? = some (f i)) : w.rowIs g e (n * size) f := by
  rcases h.2 with ⟨h0, _⟩ | ⟨g2, cap, cur, hv, _, hh, _, _, hs, ht⟩
  · simp at h0
  · simp only [Value.slice.injEq, Option.some.injEq, Addr.mk.injEq, and_true, true_and] at hv
    obtain ⟨rfl, rfl⟩ := hv
    refine ⟨cur, hh, hs, fun i hi => ?_⟩
    rw [← hf i hi, ← ht, List.getElem?_take, if_pos hi, Array.getElem?_toList]

set_option maxHeartbeats 1000000 in
theorem clone_any (g n : Nat) (F0 : Nat → Int) (F1 : Nat → ByteArray) (F2 : Nat → Int) (F3 : Nat → Int) (w : World) (t1 : TypeId) (hn : n ≤ 1048576) (h1 : w.rowIs g t1 (n * 4) (flat 4 (rowVisit F0 F1 F2 F3))) :
    Calls Try.prog 161 #[.slice (some ⟨g, 0, none⟩) n n] w fun e w' => e = .returned (.slice (some ⟨w.heap.size, 0, none⟩) n n) ∧ w'.rowIs w.heap.size 150 (n * 4) (flat 4 (rowVisit F0 F1 F2 F3)) ∧ Below w.heap.size w w' := by
  have hl1 := h1.lt
  have HR := Lib.hid h1
  clear h1
  obtain ⟨i0, hi, hz0, hz1, hz2⟩ := info_parts infoVisit
  have hmk := fun W => run_make_rowN (P := Try.prog) 77 150 i0 _ Try.underlying77 hi hz0 .i64 .i64 0 n (Nat.zero_le _) (by rw [hz2]; omega) (by omega) W
  rw [hz1] at hmk
  simp only [Int.natCast_zero] at hmk
  go_enter Try.func161, Try.ntmps161
  go_wp2_with (at_builtin; refine wpList_append_fits _ rfl _ _ 77 rfl w.heap.size 150 i0 4 Try.underlying77 hi hz1 w.heap.size 0 n [] rfl ?o1 ⟨g, 0, none⟩ n n ((List.range (n * 4)).map (flat 4 (rowVisit F0 F1 F2 F3))) rfl ?o2 ?o3 ?o4 ?o5 ?_)
  case o1 => exact World.ownsRow_made w _ n (Nat.le_refl _) (by unfold maxLen; omega) (size_madeCells _ _)
  case o2 => simp
  case o3 =>
    intro j u hu
    rw [List.getElem?_map] at hu
    rcases Nat.lt_or_ge j (n * 4) with hj | hj
    · rw [List.getElem?_range hj] at hu
      simp at hu
      subst hu
      have hadd : (Addr.add ⟨g, 0, none⟩ j : Addr) = ⟨g, j, none⟩ := by unfold Addr.add; split <;> simp_all
      rw [hadd, World.cell?_alloc_lt _ _ _ hl1]
      exact HR.out.cell hj
    · rw [List.getElem?_eq_none (by simpa using hj)] at hu
      cases hu
  case o4 => intro u hu; simp at hu; obtain ⟨i, _, rfl⟩ := hu; exact row_one _ _ _ _ _ _
  case o5 => omega
  intro w2 hown hg
  have R := own_row (f := (flat 4 (rowVisit F0 F1 F2 F3))) (by simpa using hown) (fun i hi => by rw [List.getElem?_map, List.getElem?_range hi]; rfl)
  have hB := (below_new w (.cells (madeCells _ (n * 4)) 150)).grown hg (by simp) (fun k hk => by simp at hk; omega)
  clear hmk hown hg
  try simp only [Nat.zero_add]
  go_wp2
  go_ret
  exact ⟨by first | rfl | (simp; done), R, hB⟩

theorem keep4 {F0 : Nat → Int} {F1 : Nat → ByteArray} {F2 : Nat → Int} {F3 : Nat → Int} {who : ByteArray} {h : Nat → Value} {k c : Nat} (hk : Kp F0 F1 F2 F3 who h k) (hp : kept F1 who k = true) (hc : countP (kept F1 who) k = c) :
    Kp F0 F1 F2 F3 who (fun i => if i = c * 4 + 3 then .int .i64 (F3 k) else (fun i => if i = c * 4 + 2 then .int .i64 (F2 k) else (fun i => if i = c * 4 + 1 then .string (F1 k) else (fun i => if i = c * 4 then .int .i64 (F0 k) else h i) i) i) i) (k + 1) := by
  refine hk.keep hp (fun q hq => ?_) (fun i hi => ?_)
  · rw [hc]
    match q, hq with
    | 0, _ => simp [rowVisit]
    | 1, _ => simp [rowVisit]
    | 2, _ => simp [rowVisit]
    | 3, _ => simp [rowVisit]
  · rw [hc] at hi
    simp only []
    rw [if_neg (by omega), if_neg (by omega), if_neg (by omega), if_neg (by omega)]

theorem rest4 {h f : Nat → Value} {k n c : Nat} {a0 a1 a2 a3 : Value} (hr : ∀ a, k * 4 ≤ a → a < n * 4 → h a = f a) (hc : c < k) :
    ∀ a, (k + 1) * 4 ≤ a → a < n * 4 → (fun i => if i = c * 4 + 3 then a3 else (fun i => if i = c * 4 + 2 then a2 else (fun i => if i = c * 4 + 1 then a1 else (fun i => if i = c * 4 then a0 else h i) i) i) i) a = f a := by
  intro a h1 h2
  simp only []
  rw [if_neg (by omega), if_neg (by omega), if_neg (by omega), if_neg (by omega)]
  exact hr a (by omega) h2

set_option maxHeartbeats 2000000 in
theorem del_any (g n : Nat) (F0 : Nat → Int) (F1 : Nat → ByteArray) (F2 : Nat → Int) (F3 : Nat → Int) (who : ByteArray) (bw : Nat) (w : World) (hn : n ≤ 1048576) (h1 : w.rowIs g 150 (n * 4) (flat 4 (rowVisit F0 F1 F2 F3))) (hbw : bw < w.heap.size) (hne : bw ≠ g) (hc : w.cell? ⟨bw, 0, none⟩ = some (.string who)) :
    Calls Try.prog 160 #[.slice (some ⟨g, 0, none⟩) n n, .func (.func 162) #[] #[.pointer (some ⟨bw, 0, none⟩)]] w fun e w' => e = .returned (.slice (some ⟨g, 0, none⟩) (countP (kept F1 who) n) n) ∧ (∀ j, j < n → kept F1 who j = true → ∀ q, q < 4 → w'.cell? ⟨g, countP (kept F1 who) j * 4 + q, none⟩ = some (rowVisit F0 F1 F2 F3 j q)) ∧ w.grownBy w' (some g) := by
  have H1 := Lib.hid h1
  have hl1 := h1.lt
  clear h1
  have hzv : ∀ W : World, (zeroValue 150).run Try.prog W = .ok (.agg #[.int .i64 0, .string ⟨#[]⟩, .int .i64 0, .int .i64 0]) W := fun _ => by kernel_rfl
  go_enter Try.func160, Try.ntmps160
  go_wp2_with fail
  refine (idx_any g n F0 F1 F2 F3 who bw _ 150 hn H1.out hbw hc).mono ?_
  rintro e w1 ⟨r, hr, rfl, hb1⟩
  have HR := Lib.hid (row_below H1.out hb1 H1.out.lt)
  rcases hr with ⟨rfl, ha⟩ | ⟨i, hi, rfl, hpi, ha⟩
  · have HA := Lib.hid ha
    clear ha
    go_wp2
    go_ret
    refine ⟨by rw [count_all _ _ HA.out]; rfl, fun j hj hp q hq => ?_, grown_below g hb1⟩
    rw [count_all _ _ (fun i hi => HA.out i (by omega))]
    have := HR.out.cell (i := j * 4 + q) (by omega)
    rwa [flat_at _ _ _ _ hq] at this
  · have HC := Lib.hid (show countP (kept F1 who) (i + 1) = i by rw [count_no hpi, count_all _ _ ha])
    have HK := Lib.hid ((Kp.start (F0 := F0) (F1 := F1) (F2 := F2) (F3 := F3) ha).drop hpi)
    have hii : (i : Int) < (n : Int) := by omega
    have hi1 : ((i : Int) == -1) = false := by rw [beq_eq_false_iff_ne]; omega
    clear ha hpi
    go_wp2
    go_loopw [5, 6] (fun v u wr => ∃ (k : Nat) (h : Nat → Value), i < k ∧ k ≤ n ∧ countP (kept F1 who) k < k ∧ u = .int .i64 k ∧ v = .int .i64 ((countP (kept F1 who) k : Nat) : Int) ∧ wr.rowIs g 150 (n * 4) h ∧ Kp F0 F1 F2 F3 who h k ∧ (∀ a, k * 4 ≤ a → a < n * 4 → h a = (flat 4 (rowVisit F0 F1 F2 F3)) a) ∧ w.grownBy wr (some g)) (fun _ u _ => n - (intOf u).toNat)
    case atStart => exact ⟨i + 1, _, by omega, by omega, by rw [HC.out]; omega, by go_num, by rw [HC.out], HR.out, HK.out, fun _ _ _ => rfl, grown_below g hb1⟩
    case round =>
      obtain ⟨k, h, hik, hk, hcl, rfl, rfl, hrow, hkp, hrest, hg⟩ := hrel
      obtain ⟨c, hcc⟩ : ∃ c, countP (kept F1 who) k = c := ⟨_, rfl⟩
      rw [hcc] at hcl ⊢
      have HCC := Lib.hid hcc
      clear hcc
      have HP := Lib.hid hkp
      have HQ := Lib.hid hrest
      have HG := Lib.hid hg
      have hgs : w.heap.size ≤ wr.heap.size := hg.size
      have hgw : g < wr.heap.size := hrow.lt
      have hcw : wr.cell? ⟨bw, 0, none⟩ = some (.string who) := hg.cell hc (by simpa using hne)
      have hbw2 : bw < wr.heap.size := by omega
      clear hkp hrest hg
      by_cases hlt : k < n
      · have hlti : (k : Int) < (n : Int) := by omega
        have hki : (0 : Int) ≤ (k : Int) := by omega
        have hci : (0 : Int) ≤ (c : Int) := by omega
        have hcn : (c : Int) < (n : Int) := by omega
        have c0 : wr.cell? ⟨g, k * 4, none⟩ = some (.int .i64 (F0 k)) := by have := hrow.cell (i := k * 4 + 0) (by omega); rw [HQ.out _ (by omega) (by omega), flat_at _ _ _ _ (by omega)] at this; exact this
        have c1 : wr.cell? ⟨g, k * 4 + 1, none⟩ = some (.string (F1 k)) := by have := hrow.cell (i := k * 4 + 1) (by omega); rw [HQ.out _ (by omega) (by omega), flat_at _ _ _ _ (by omega)] at this; exact this
        have c2 : wr.cell? ⟨g, k * 4 + 2, none⟩ = some (.int .i64 (F2 k)) := by have := hrow.cell (i := k * 4 + 2) (by omega); rw [HQ.out _ (by omega) (by omega), flat_at _ _ _ _ (by omega)] at this; exact this
        have c3 : wr.cell? ⟨g, k * 4 + 3, none⟩ = some (.int .i64 (F3 k)) := by have := hrow.cell (i := k * 4 + 3) (by omega); rw [HQ.out _ (by omega) (by omega), flat_at _ _ _ _ (by omega)] at this; exact this
        have o0 := hrow.cell (i := c * 4) (by omega)
        have o1 := hrow.cell (i := c * 4 + 1) (by omega)
        have o2 := hrow.cell (i := c * 4 + 2) (by omega)
        have o3 := hrow.cell (i := c * 4 + 3) (by omega)
        have f0 := hrow.frozen (c * 4)
        have f1 := hrow.frozen (c * 4 + 1)
        have f2 := hrow.frozen (c * 4 + 2)
        have f3 := hrow.frozen (c * 4 + 3)
        have HW := Lib.hid hrow
        clear hrow
        go_wp2_with fail
        refine (drop_any _ _ _ _ who bw _ (by simp; omega) (by rw [World.cell?_alloc_lt _ _ _ hbw2]; exact hcw)).mono ?_
        rintro e w2 ⟨rfl, hw2⟩
        have hB : Below wr.heap.size wr w2 := by subst hw2; exact (below_new _ _).alloc (by simp) _
        have b0 : w2.cell? ⟨wr.heap.size, 0, none⟩ = some (.int .i64 (F0 k)) := by subst hw2; simp
        have b1 : w2.cell? ⟨wr.heap.size, 1, none⟩ = some (.string (F1 k)) := by subst hw2; simp
        have b2 : w2.cell? ⟨wr.heap.size, 2, none⟩ = some (.int .i64 (F2 k)) := by subst hw2; simp
        have b3 : w2.cell? ⟨wr.heap.size, 3, none⟩ = some (.int .i64 (F3 k)) := by subst hw2; simp
        have hs2 : wr.heap.size < w2.heap.size := by subst hw2; simp; omega
        clear hw2
        replace o0 := (bcell hB _ _ hgw).trans o0
        replace o1 := (bcell hB _ _ hgw).trans o1
        replace o2 := (bcell hB _ _ hgw).trans o2
        replace o3 := (bcell hB _ _ hgw).trans o3
        replace f0 := (hB.frozen (p := ⟨g, c * 4, none⟩) hgw).trans f0
        replace f1 := (hB.frozen (p := ⟨g, c * 4 + 1, none⟩) hgw).trans f1
        replace f2 := (hB.frozen (p := ⟨g, c * 4 + 2, none⟩) hgw).trans f2
        replace f3 := (hB.frozen (p := ⟨g, c * 4 + 3, none⟩) hgw).trans f3
        have HW2 := Lib.hid (row_below HW.out hB hgw)
        have HG2 := Lib.hid (grown_trans HG.out (grown_below g hB))
        clear c0 c1 c2 c3 HW HG hB hcw
        cases hp : kept F1 who k with
        | true =>
          have hp2 : ((F1 k).toList == who.toList) = true := hp
          have HC2 := Lib.hid (show countP (kept F1 who) (k + 1) = c + 1 by rw [count_yes hp, HCC.out])
          have HS := Lib.hid ((((HW2.out.set (c * 4) (.int .i64 (F0 k))).set (c * 4 + 1) (.string (F1 k))).set (c * 4 + 2) (.int .i64 (F2 k))).set (c * 4 + 3) (.int .i64 (F3 k)))
          have HG3 := Lib.hid (grown_trans (grown_trans (grown_trans (grown_trans HG2.out (grown_set1 _ g (c * 4) (.int .i64 (F0 k)))) (grown_set1 _ g (c * 4 + 1) (.string (F1 k)))) (grown_set1 _ g (c * 4 + 2) (.int .i64 (F2 k)))) (grown_set1 _ g (c * 4 + 3) (.int .i64 (F3 k))))
          have HK2 := Lib.hid (keep4 HP.out hp HCC.out)
          have HR2 := Lib.hid (rest4 (a0 := .int .i64 (F0 k)) (a1 := .string (F1 k)) (a2 := .int .i64 (F2 k)) (a3 := .int .i64 (F3 k)) HQ.out hcl)
          clear hp
          go_wp2
          go_roundw
          case rel => first | exact ⟨k + 1, _, by omega, by omega, by rw [HC2.out]; omega, by go_num, by rw [HC2.out]; go_num, HS.out, HK2.out, HR2.out, HG3.out⟩ | ((repeat apply Exists.intro); exact ⟨⟨k + 1, _, by omega, by omega, by rw [HC2.out]; omega, by go_num, by rw [HC2.out]; go_num, HS.out, HK2.out, HR2.out, HG3.out⟩, rfl⟩)
          case measure => simp [intOf]; omega
        | false =>
          have hp2 : ((F1 k).toList == who.toList) = false := hp
          have HC2 := Lib.hid (show countP (kept F1 who) (k + 1) = c by rw [count_no hp, HCC.out])
          have HK2 := Lib.hid (HP.out.drop hp)
          have HR2 := Lib.hid (show ∀ a, (k + 1) * 4 ≤ a → a < n * 4 → h a = (flat 4 (rowVisit F0 F1 F2 F3)) a from fun a h1 h2 => HQ.out a (by omega) h2)
          clear hp
          go_wp2
          go_roundw
          case rel => first | exact ⟨k + 1, _, by omega, by omega, by rw [HC2.out]; omega, by go_num, by rw [HC2.out], HW2.out, HK2.out, HR2.out, HG2.out⟩ | ((repeat apply Exists.intro); exact ⟨⟨k + 1, _, by omega, by omega, by rw [HC2.out]; omega, by go_num, by rw [HC2.out], HW2.out, HK2.out, HR2.out, HG2.out⟩, rfl⟩)
          case measure => simp [intOf]; omega
      · obtain rfl : k = n := by omega
        have hci : (0 : Int) ≤ (c : Int) := by omega
        have hcn : (c : Int) ≤ (k : Int) := by omega
        have hcn2 : c < k := hcl
        have HW := Lib.hid hrow
        have hcl2 : ∀ ty, (Builtin.clear_ #[77] ty #[.slice (some ⟨g, c * 4, none⟩) (k - c) (k - c)]).run Try.prog wr = .ok (.tuple #[]) (wr.setCells g (c * 4) (Builtin.zeroCells (Value.cells (.agg #[.int .i64 0, .string ⟨#[]⟩, .int .i64 0, .int .i64 0])) (k - c)).toList) := fun ty => run_clear_rows wr 77 150 ty _ Try.underlying77 hzv (by decide) g (c * 4) (k - c) (k - c) (by omega) (fun j hj => by have hj2 : j < (k - c) * 4 := hj; rw [HW.out.cell (i := c * 4 + j) (by omega)]; rfl) (fun j => HW.out.frozen _)
        clear hrow hzv
        go_wp2
        go_ret
        refine ⟨by rw [HCC.out]; rfl, fun j hj hp q hq => ?_, grown_trans HG.out (grown_setCells g _ _ _)⟩
        have hl := count_lt (kept F1 who) hj hp
        rw [World.cell?_setCells_out _ _ _ _ _ (fun _ _ => .inl (by have := HCC.out; simp; omega)), HW.out.cell (by have := HCC.out; omega), HP.out j hj hp q hq]
end Go.Proofs.Ytllmillhdmknpaa
