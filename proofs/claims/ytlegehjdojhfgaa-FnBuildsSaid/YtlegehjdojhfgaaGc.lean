/- Goods that are drawn, part 6: how many builds can be taken. No statement of the program is proved here. -/
import Derived.Test.YtlegehjdojhfgaaGl
namespace Go.Proofs.Ytlegehjdojhfgaa
open Go.RowKit
set_option linter.unusedVariables false

set_option maxHeartbeats 1000000 in
theorem R8Goods_any (n c : Nat) (a : Option Addr) (z : Nat → Int) (w : World) (h0 : InBytes w a n z) (hm : n ≤ 1048576) :
    Calls Try.prog 5 #[.slice a n c] w (GoodsPost w w.heap.size) := by
  have hd := draw_any w.heap.size n c a z w (w.alloc (.cells #[.slice a n c, .int .i64 0, .int .u64 0] 49)) h0 hm (below_new _ _) (Nat.le_refl _) (from_src n c a w)
  have HD := Lib.hid hd
  clear hd h0
  go_enter Try.func5, Try.ntmps5
  go_wp2_with fail
  refine (from_any n c a w).mono ?_
  rintro e w1 ⟨rfl, rfl⟩
  go_wp2_with fail
  refine HD.out.mono ?_
  rintro e w2 ⟨g, m, cap, X, C, L, Q, rfl, hG, hg0, hg1, hR, hb⟩
  have H1 := Lib.hid hG
  have H2 := Lib.hid hR
  clear hG hR HD
  go_wp2
  go_ret
  exact ⟨g, m, cap, X, C, L, Q, rfl, H1.out, by simp at hg0; omega, hg1, H2.out, hb⟩

/-- Names that can be read. -/
def RdN (w : World) (g n : Nat) (J : Nat → Nat) : Prop := ∀ i, i < n → w.cell? ⟨g, i, none⟩ = some (.string (nm (J i)))
theorem RdN.below {w w' : World} {g n : Nat} {J : Nat → Nat} (h : RdN w g n J) (hb : Below w.heap.size w w') (hg : g < w.heap.size) : RdN w' g n J := fun i hi => (bcell hb _ _ hg).trans (h i hi)

/-- Goods that were chosen, with pieces. -/
structure Picked (n p : Nat) (I : Nat → Nat) (P : Nat → Int) : Prop where
  lt : ∀ j, j < p → I j < n
  up : ∀ i j, i < j → j < p → I i < I j
  pc : ∀ j, j < p → 1 ≤ P j ∧ P j ≤ 6

/-- The pieces that the first k of the chosen goods need. -/
structure Needs (k : Nat) (I : Nat → Nat) (P N : Nat → Int) : Prop where
  b : ∀ i, 0 ≤ N i ∧ N i ≤ 6
  at' : ∀ j, j < k → N (I j) = P j
  off : ∀ i, N i ≠ 0 → ∃ j, j < k ∧ i = I j
theorem Needs.none (I : Nat → Nat) (P : Nat → Int) : Needs 0 I P (fun _ => 0) := ⟨fun i => by omega, fun j hj => by omega, fun i h => absurd rfl h⟩
theorem Needs.zero {n p k : Nat} {I : Nat → Nat} {P N : Nat → Int} (h : Needs k I P N) (hp : Picked n p I P) (hk : k < p) : N (I k) = 0 := by
  by_cases e : N (I k) = 0
  · exact e
  · obtain ⟨j, hj, he⟩ := h.off _ e
    have := hp.up j k hj hk
    omega
theorem Needs.snoc {n p k : Nat} {I : Nat → Nat} {P N : Nat → Int} (h : Needs k I P N) (hp : Picked n p I P) (hk : k < p) : Needs (k + 1) I P (upd N (I k) (P k)) := by
  refine ⟨fun i => ?_, fun j hj => ?_, fun i hi => ?_⟩
  · unfold upd
    split
    · have := hp.pc k hk; omega
    · exact h.b i
  · by_cases e : j = k
    · rw [e, upd_at]
    · have := hp.up j k (by omega) hk
      unfold upd
      rw [if_neg (by omega)]
      exact h.at' j (by omega)
  · unfold upd at hi
    split at hi
    · rename_i e
      exact ⟨k, by omega, e⟩
    · obtain ⟨j, hj, he⟩ := h.off i hi
      exact ⟨j, by omega, he⟩

/-- The least of the quotients so far. -/
structure Least (k : Nat) (N C : Nat → Int) (v : Int) : Prop where
  b0 : 0 ≤ v
  b1 : v ≤ 100000
  le : ∀ i, i < k → 0 < N i → v * N i ≤ C i
  hit : v = 100000 ∨ ∃ i, i < k ∧ 0 < N i ∧ C i < (v + 1) * N i
theorem div_facts {c n : Int} (hc : 0 ≤ c) (hn : 0 < n) : 0 ≤ c / n ∧ c / n * n ≤ c ∧ c < (c / n + 1) * n := by
  have h0 := Int.ediv_nonneg hc (Int.le_of_lt hn)
  have h1 := Int.ediv_mul_le c (Int.ne_of_gt hn)
  have h2 := Int.lt_ediv_add_one_mul_self c hn
  exact ⟨h0, h1, h2⟩
theorem min_if (x d : Int) : min x d = if d < x then d else x := by split <;> omega
theorem Least.none (N C : Nat → Int) : Least 0 N C 100000 := ⟨by omega, by omega, fun i hi => by omega, .inl rfl⟩
theorem Least.skip {k : Nat} {N C : Nat → Int} {v : Int} (h : Least k N C v) (h0 : N k = 0) : Least (k + 1) N C v := by
  refine ⟨h.b0, h.b1, fun i hi hN => ?_, ?_⟩
  · by_cases e : i = k
    · rw [e] at hN; omega
    · exact h.le i (by omega) hN
  · rcases h.hit with h1 | ⟨i, hi, hN, hc⟩
    · exact .inl h1
    · exact .inr ⟨i, by omega, hN, hc⟩
theorem Least.snoc {k : Nat} {N C : Nat → Int} {v : Int} (h : Least k N C v) (hN : 0 < N k) (hC : 0 ≤ C k) : Least (k + 1) N C (min v (C k / N k)) := by
  obtain ⟨d0, d1, d2⟩ := div_facts hC hN
  have hb0 := h.b0
  have hb1 := h.b1
  rcases Int.le_total v (C k / N k) with hle | hle
  · rw [Int.min_eq_left hle]
    refine ⟨hb0, hb1, fun i hi hNi => ?_, ?_⟩
    · by_cases e : i = k
      · rw [e]; exact Int.le_trans (Int.mul_le_mul_of_nonneg_right hle (Int.le_of_lt hN)) d1
      · exact h.le i (by omega) hNi
    · rcases h.hit with h1 | ⟨i, hi, hNi, hc⟩
      · exact .inl h1
      · exact .inr ⟨i, by omega, hNi, hc⟩
  · rw [Int.min_eq_right hle]
    refine ⟨d0, by omega, fun i hi hNi => ?_, .inr ⟨k, by omega, hN, d2⟩⟩
    by_cases e : i = k
    · rw [e]; exact d1
    · exact Int.le_trans (Int.mul_le_mul_of_nonneg_right hle (Int.le_of_lt hNi)) (h.le i (by omega) hNi)

/-- As many builds as told can be taken and no more. -/
structure Most (p : Nat) (I : Nat → Nat) (P C : Nat → Int) (v : Int) : Prop where
  b0 : 0 ≤ v
  b1 : v ≤ 39
  le : ∀ j, j < p → v * P j ≤ C (I j)
  hit : ∃ j, j < p ∧ C (I j) < (v + 1) * P j
theorem Most.of {n p : Nat} {X I : Nat → Nat} {P N C L Q : Nat → Int} {v : Int} (hG : Goods n X C L Q) (hp : 1 ≤ p) (hI : Picked n p I P) (hN : Needs p I P N) (h : Least n N C v) : Most p I P C v := by
  have le : ∀ j, j < p → v * P j ≤ C (I j) := fun j hj => by
    have := h.le (I j) (hI.lt j hj)
    rw [hN.at' j hj] at this
    exact this (by have := hI.pc j hj; omega)
  have h39 : v ≤ 39 := by
    have h1 := le 0 (by omega)
    have h2 := (hG.c (I 0) (hI.lt 0 (by omega))).2
    have h3 := (hI.pc 0 (by omega)).1
    have h4 := Int.mul_le_mul_of_nonneg_left h3 h.b0
    omega
  refine ⟨h.b0, h39, le, ?_⟩
  rcases h.hit with h1 | ⟨i, hi, hNi, hc⟩
  · omega
  · obtain ⟨j, hj, he⟩ := hN.off i (by omega)
    rw [he, hN.at' j hj] at hc
    exact ⟨j, hj, hc⟩

def BuildPost (w : World) (p : Nat) (I : Nat → Nat) (P C : Nat → Int) (e : Ending) (w' : World) : Prop := ∃ v : Int, e = .returned (.tuple #[.int .i64 v, .int .i64 0]) ∧ Most p I P C v ∧ Below w.heap.size w w'

set_option maxHeartbeats 1000000 in
theorem canBuild_none (g n cap ci cp : Nat) (ai ap : Option Addr) (X : Nat → Nat) (C L Q : Nat → Int) (w : World) (hG : Goods n X C L Q) (hl1 : g < w.heap.size) (hR : RdGood w g 0 n (fun i => nm (X i)) C L Q) :
    Calls Try.prog 7 #[.slice (some ⟨g, 0, none⟩) n cap, .slice ai 0 ci, .slice ap 0 cp] w fun e w' => e = .returned (.tuple #[.int .i64 0, .int .i64 7]) ∧ Below w.heap.size w w' := by
  have hv := ValidGoods_ok g n cap X C L Q w hG hl1 hR
  have HV := Lib.hid hv
  clear hv hG hR
  go_enter Try.func7, Try.ntmps7
  go_wp2_with fail
  refine HV.out.mono ?_
  rintro e w1 ⟨rfl, hb1⟩
  go_wp2
  go_loopw [23] (fun i wr => i = .int .i64 0 ∧ Below w.heap.size w wr) (fun _ _ => 0)
  case atStart => exact ⟨rfl, hb1⟩
  case round =>
    obtain ⟨rfl, hbel⟩ := hrel
    clear hb1
    go_wp2_with ((go_at_call 13; refine (within_any _ _ _ _).mono ?_; rintro e w' ⟨rfl, rfl⟩))
    go_ret2
    exact ⟨rfl, hbel⟩

set_option maxHeartbeats 4000000 in
theorem canBuild_ok (g n cap gi ci gp cp p : Nat) (X I : Nat → Nat) (C L Q P : Nat → Int) (w : World) (hG : Goods n X C L Q) (hl1 : g < w.heap.size) (hR : RdGood w g 0 n (fun i => nm (X i)) C L Q)
    (hp : 1 ≤ p) (hp5 : p ≤ 5) (hgi : gi < w.heap.size) (hgp : gp < w.heap.size) (hI : RdN w gi p (fun j => X (I j))) (hP : RdI w gp p P) (hPk : Picked n p I P) :
    Calls Try.prog 7 #[.slice (some ⟨g, 0, none⟩) n cap, .slice (some ⟨gi, 0, none⟩) p ci, .slice (some ⟨gp, 0, none⟩) p cp] w (BuildPost w p I P C) := by
  have hv := ValidGoods_ok g n cap X C L Q w hG hl1 hR
  have HV := Lib.hid hv
  have HG := Lib.hid hG
  have HR := Lib.hid hR
  have HI := Lib.hid hI
  have HP := Lib.hid hP
  have HPk := Lib.hid hPk
  have hn5 := hG.n5
  clear hv hG hR hI hP hPk
  obtain ⟨i0, hi, hz0, hz1, hz2⟩ := info_parts (show (Try.prog.info? 2).map (fun i => (i.zero, i.size, i.bytes)) = some (some (.int .i64 0), 1, 8) by kernel_rfl)
  have hmk := fun W => run_make_rowN (P := Try.prog) 27 2 i0 _ Try.underlying27 hi hz0 .i64 .i64 n n (Nat.le_refl _) (by rw [hz2]; omega) (by omega) W
  rw [hz1] at hmk
  clear hi hz0 hz1 hz2
  have HM := Lib.hid hmk
  clear hmk
  have hpi : (1 : Int) ≤ (p : Int) := by omega
  have hpi2 : (p : Int) ≤ 16 := by omega
  go_enter Try.func7, Try.ntmps7
  go_wp2_with fail
  refine HV.out.mono ?_
  rintro e w1 ⟨rfl, hb1⟩
  go_wp2
  go_loopw [23] (fun i wr => ∃ k : Nat, k ≤ p ∧ i = .int .i64 k ∧ Below w.heap.size w wr) (fun i _ => p - (intOf i).toNat)
  case atStart => exact ⟨0, Nat.zero_le _, rfl, hb1⟩
  case round =>
    obtain ⟨k, hk, rfl, hbel⟩ := hrel
    clear hb1 HV
    by_cases hlt : k < p
    · have hlti : (k : Int) < (p : Int) := by omega
      have hki : (0 : Int) ≤ (k : Int) := by omega
      have c0 := HP.out k hlt
      rw [← bcell hbel _ _ hgp] at c0
      obtain ⟨q0, q1⟩ := HPk.out.pc k hlt
      have hin : inB (P k) 1 100000 = true := inB_mk q0 (by omega)
      go_wp2_with ((go_at_call 13; refine (within_any _ _ _ _).mono ?_; rintro e w' ⟨rfl, rfl⟩))
      go_roundw
      case rel => exact ⟨k + 1, by omega, by go_num, hbel⟩
      case measure => simp [intOf]; omega
    · obtain rfl : k = p := by omega
      have hin : inB (k : Int) 1 16 = true := inB_mk (by omega) (by omega)
      have hmk := HM.out
      go_wp2_with ((go_at_call 13; refine (within_any _ _ _ _).mono ?_; rintro e w' ⟨rfl, rfl⟩))
      clear hmk HM hin hpi hpi2
      obtain ⟨wa, rfl⟩ : ∃ wa, wa = wr := ⟨_, rfl⟩
      have hwn : w.heap.size ≤ wa.heap.size := hbel.size
      go_loopw [47] (fun i wr => ∃ (q : Nat) (N : Nat → Int), q ≤ k ∧ i = .int .i64 q ∧ Needs q I P N ∧ wr.rowIs wa.heap.size 2 n (fun i => .int .i64 (N i)) ∧ Below w.heap.size w wr) (fun i _ => k - (intOf i).toNat)
      case atStart => exact ⟨0, fun _ => 0, Nat.zero_le _, rfl, Needs.none I P, by simpa using World.rowIs_made wa (.int .i64 0) n 2, hbel.alloc hbel.size _⟩
      case round =>
        obtain ⟨q, N, hq, rfl, hN, hrow, hbel2⟩ := hrel
        have HN := Lib.hid hN
        have HW := Lib.hid hrow
        have hnl := hrow.lt
        have hl2 : g < wr.heap.size := Nat.lt_of_lt_of_le hl1 hbel2.size
        clear hN hrow hbel
        by_cases hlt2 : q < k
        · have hlti : (q : Int) < (k : Int) := by omega
          have hki : (0 : Int) ≤ (q : Int) := by omega
          have c0 := HI.out q hlt2
          rw [← bcell hbel2 _ _ hgi] at c0
          have HRq := Lib.hid (show RdGood wr g 0 n (fun i => nm (X i)) C L Q from fun i hi => by
            obtain ⟨d0, d1, d2, d3⟩ := HR.out i hi
            exact ⟨(bcell hbel2 _ _ hl1).trans d0, (bcell hbel2 _ _ hl1).trans d1, (bcell hbel2 _ _ hl1).trans d2, (bcell hbel2 _ _ hl1).trans d3⟩)
          have hIq : I q < n := HPk.out.lt q hlt2
          go_wp2_with fail
          refine (goodOf_ok g n cap X C L Q wr HG.out hl2 HRq.out (I q) hIq).mono ?_
          rintro e w2 ⟨rfl, hb2⟩
          have hbel3 := hbel2.trans (hb2.mono hbel2.size)
          have HW2 := Lib.hid (row_below HW.out hb2 hnl)
          have d0 : w2.cell? ⟨wa.heap.size, I q, none⟩ = some (.int .i64 0) := by
            rw [HW2.out.cell hIq, HN.out.zero HPk.out hlt2]
          have d1 : w2.cell? ⟨gp, q, none⟩ = some (.int .i64 (P q)) := (bcell hbel3 _ _ hgp).trans (HP.out q hlt2)
          have d2 := HW2.out.frozen (I q)
          obtain ⟨p0, p1⟩ := HPk.out.pc q hlt2
          have hIqi : ((I q : Nat) : Int) < (n : Int) := by omega
          have hIq0 : (0 : Int) ≤ ((I q : Nat) : Int) := by omega
          clear HW
          go_wp2
          go_region
          go_wp2
          go_roundw
          case rel => exact ⟨q + 1, upd N (I q) (P q), by omega, by go_num, HN.out.snoc HPk.out hlt2, (((HW2.out.set (I q) (.int .i64 (P q))).congr (fun j _ => by
            unfold upd
            split
            · rfl
            · rfl)).drew), (hbel3.setCell hwn _).drew⟩
          case measure => simp [intOf]; omega
        · obtain rfl : q = k := by omega
          clear HI HP
          go_wp2
          go_loopw [15, 73] (fun v i wr2 => ∃ (r : Nat) (x : Int), r ≤ n ∧ i = .int .i64 r ∧ v = .int .i64 x ∧ Least r N C x ∧ wr2 = wr) (fun _ i _ => n - (intOf i).toNat)
          case atStart => exact ⟨0, 100000, Nat.zero_le _, rfl, rfl, Least.none N C, rfl⟩
          case round =>
            obtain ⟨r, x, hr, rfl, rfl, hL, rfl⟩ := hrel
            have HL := Lib.hid hL
            obtain ⟨x0, x1⟩ := And.intro hL.b0 hL.b1
            clear hL
            by_cases hlt3 : r < n
            · have hlti : (r : Int) < (n : Int) := by omega
              have hki : (0 : Int) ≤ (r : Int) := by omega
              have c0 := HW.out.cell hlt3
              obtain ⟨d0, d1, d2, d3⟩ := HR.out r hlt3
              rw [← bcell hbel2 _ _ hl1] at d0 d1 d2 d3
              simp only [Nat.zero_add] at d0 d1 d2 d3
              obtain ⟨n0, n1⟩ := HN.out.b r
              obtain ⟨b0, b1⟩ := HG.out.c r hlt3
              by_cases hN0 : N r = 0
              · have HS := Lib.hid (HL.out.skip hN0)
                rw [hN0] at c0
                clear hN0 n0 n1
                go_wp2
                go_roundw
                case rel => exact ⟨r + 1, x, by omega, by go_num, rfl, HS.out, trivial⟩
                case measure => simp [intOf]; omega
              · have hN1 : 0 < N r := by omega
                have HS := Lib.hid (HL.out.snoc hN1 b0)
                clear hN0
                obtain ⟨e0, e1, _⟩ := div_facts b0 hN1
                go_wp2
                go_roundw
                case rel => exact ⟨r + 1, _, by omega, by go_num, rfl, by rw [← min_if]; exact HS.out, trivial⟩
                case measure => simp [intOf]; omega
            · obtain rfl : r = n := by omega
              go_wp2
              go_ret2
              exact ⟨x, rfl, Most.of HG.out hp HPk.out HN.out HL.out, hbel2⟩
end Go.Proofs.Ytlegehjdojhfgaa
