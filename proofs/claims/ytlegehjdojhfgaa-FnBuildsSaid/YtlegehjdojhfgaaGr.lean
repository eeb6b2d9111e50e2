/- Goods that are drawn, part 7: the good that runs out first. No statement of the program is proved here. -/
import Derived.Test.YtlegehjdojhfgaaGc
namespace Go.Proofs.Ytlegehjdojhfgaa
open Go.RowKit
set_option linter.unusedVariables false

/-- The good that runs out first, so far. -/
structure First (k : Nat) (D C : Nat → Int) (f : Nat) (days : Int) : Prop where
  lt : f < k
  nz : 0 < D f
  eq : days = C f / D f
  b0 : 0 ≤ days
  le : ∀ i, i < k → 0 < D i → days * D i ≤ C i
theorem First.skip {k f : Nat} {D C : Nat → Int} {days : Int} (h : First k D C f days) (h0 : 0 < D k → days * D k ≤ C k) : First (k + 1) D C f days :=
  ⟨by have := h.lt; omega, h.nz, h.eq, h.b0, fun i hi hD => by
    by_cases e : i = k
    · rw [e] at hD ⊢; exact h0 hD
    · exact h.le i (by omega) hD⟩
theorem First.one {k : Nat} {D C : Nat → Int} (hz : ∀ i, i < k → D i = 0) (hD : 0 < D k) (hC : 0 ≤ C k) : First (k + 1) D C k (C k / D k) :=
  ⟨by omega, hD, rfl, (div_facts hC hD).1, fun i hi hDi => by
    by_cases e : i = k
    · rw [e]; exact (div_facts hC hD).2.1
    · have := hz i (by omega); omega⟩
theorem First.next {k f : Nat} {D C : Nat → Int} {days : Int} (h : First k D C f days) (hD : 0 < D k) (hC : 0 ≤ C k) (hl : C k / D k ≤ days) : First (k + 1) D C k (C k / D k) :=
  ⟨by omega, hD, rfl, (div_facts hC hD).1, fun i hi hDi => by
    by_cases e : i = k
    · rw [e]; exact (div_facts hC hD).2.1
    · exact Int.le_trans (Int.mul_le_mul_of_nonneg_right hl (Int.le_of_lt hDi)) (h.le i (by omega) hDi)⟩
theorem First.stay {k : Nat} {D C : Nat → Int} {days : Int} (hD : 0 < D k) (hC : 0 ≤ C k) (hl : days ≤ C k / D k) : days * D k ≤ C k :=
  Int.le_trans (Int.mul_le_mul_of_nonneg_right hl (Int.le_of_lt hD)) (div_facts hC hD).2.1
theorem First.out {k f : Nat} {D C : Nat → Int} {days : Int} (h : First k D C f days) (hC : 0 ≤ C f) : C f < (days + 1) * D f := by
  rw [h.eq]; exact (div_facts hC h.nz).2.2

def RunPost (w : World) (n : Nat) (D C : Nat → Int) (e : Ending) (w' : World) : Prop := ((e = .returned (.tuple #[.int .i64 0, .int .i64 0, .int .i64 3]) ∧ ∀ i, i < n → D i = 0) ∨ ∃ (f : Nat) (days : Int), e = .returned (.tuple #[.int .i64 (f : Int), .int .i64 days, .int .i64 0]) ∧ First n D C f days) ∧ Below w.heap.size w w'

set_option maxHeartbeats 4000000 in
theorem runOut_ok (g n cap gd cd : Nat) (X : Nat → Nat) (C L Q D : Nat → Int) (w : World) (hG : Goods n X C L Q) (hl1 : g < w.heap.size) (hR : RdGood w g 0 n (fun i => nm (X i)) C L Q)
    (hgd : gd < w.heap.size) (hD : RdI w gd n D) (hDb : ∀ i, i < n → 0 ≤ D i ∧ D i ≤ 100) :
    Calls Try.prog 8 #[.slice (some ⟨g, 0, none⟩) n cap, .slice (some ⟨gd, 0, none⟩) n cd] w (RunPost w n D C) := by
  have hv := ValidGoods_ok g n cap X C L Q w hG hl1 hR
  have HV := Lib.hid hv
  have HG := Lib.hid hG
  have HR := Lib.hid hR
  have HD := Lib.hid hD
  have HB := Lib.hid hDb
  have hn5 := hG.n5
  clear hv hG hR hD hDb
  go_enter Try.func8, Try.ntmps8
  go_wp2_with fail
  refine HV.out.mono ?_
  rintro e w1 ⟨rfl, hb1⟩
  go_wp2_with fail
  refine (areCounts_ok gd n cap cd (some ⟨g, 0, none⟩) D w1 hn5 (HD.out.below hb1 hgd) HB.out).mono ?_
  rintro e w2 ⟨rfl, rfl⟩
  go_wp2
  go_loopw [7, 8, 20] (fun bv dv i wr => ∃ k : Nat, k ≤ n ∧ i = .int .i64 k ∧ ((bv = .int .i64 (-1) ∧ dv = .int .i64 0 ∧ ∀ i, i < k → D i = 0) ∨ ∃ (f : Nat) (days : Int), bv = .int .i64 (f : Int) ∧ dv = .int .i64 days ∧ First k D C f days) ∧ Below w.heap.size w wr) (fun _ _ i _ => n - (intOf i).toNat)
  case atStart => exact ⟨0, Nat.zero_le _, rfl, .inl ⟨rfl, rfl, fun i hi => by omega⟩, hb1⟩
  case round =>
    obtain ⟨k, hk, rfl, hcase, hbel⟩ := hrel
    clear hb1 HV
    by_cases hlt : k < n
    · have hlti : (k : Int) < (n : Int) := by omega
      have hki : (0 : Int) ≤ (k : Int) := by omega
      have c0 := HD.out k hlt
      rw [← bcell hbel _ _ hgd] at c0
      obtain ⟨d0, d1, d2, d3⟩ := HR.out k hlt
      rw [← bcell hbel _ _ hl1] at d0 d1 d2 d3
      simp only [Nat.zero_add] at d0 d1 d2 d3
      obtain ⟨n0, n1⟩ := HB.out k hlt
      obtain ⟨b0, b1⟩ := HG.out.c k hlt
      by_cases hD0 : D k = 0
      · rw [hD0] at c0
        rcases hcase with ⟨rfl, rfl, hz⟩ | ⟨f, days, rfl, rfl, hf⟩
        · have HZ := Lib.hid (show ∀ i, i < k + 1 → D i = 0 from fun i hi => by
            by_cases e : i = k
            · rw [e]; exact hD0
            · exact hz i (by omega))
          clear hz hD0 n0 n1
          go_wp2
          go_roundw
          case rel => exact ⟨k + 1, by omega, by go_num, .inl ⟨rfl, rfl, HZ.out⟩, hbel⟩
          case measure => simp [intOf]; omega
        · have HF := Lib.hid (hf.skip (fun h => by omega))
          clear hf hD0 n0 n1
          go_wp2
          go_roundw
          case rel => exact ⟨k + 1, by omega, by go_num, .inr ⟨f, days, rfl, rfl, HF.out⟩, hbel⟩
          case measure => simp [intOf]; omega
      · have hD1 : 0 < D k := by omega
        obtain ⟨e0, e1, _⟩ := div_facts b0 hD1
        clear hD0
        rcases hcase with ⟨rfl, rfl, hz⟩ | ⟨f, days, rfl, rfl, hf⟩
        · have HF := Lib.hid (First.one hz hD1 b0)
          clear hz
          go_wp2
          go_big_quiet (fail)
          go_wp2
          go_roundw
          case rel => exact ⟨k + 1, by omega, by go_num, .inr ⟨k, _, rfl, rfl, HF.out⟩, below_drewN hbel _⟩
          case measure => simp [intOf]; omega
        · by_cases hl : C k / D k < days
          · have HF := Lib.hid (hf.next hD1 b0 (Int.le_of_lt hl))
            clear hf
            go_wp2
            go_big_quiet (fail)
            go_wp2
            go_roundw
            case rel => exact ⟨k + 1, by omega, by go_num, .inr ⟨k, _, rfl, rfl, HF.out⟩, below_drewN hbel _⟩
            case measure => simp [intOf]; omega
          · have HF := Lib.hid (hf.skip (fun _ => First.stay hD1 b0 (by omega)))
            clear hf
            go_wp2
            go_roundw
            case rel => exact ⟨k + 1, by omega, by go_num, .inr ⟨f, days, rfl, rfl, HF.out⟩, hbel⟩
            case measure => simp [intOf]; omega
    · obtain rfl : k = n := by omega
      clear HD HB HR
      rcases hcase with ⟨rfl, rfl, hz⟩ | ⟨f, days, rfl, rfl, hf⟩
      · have HZ := Lib.hid hz
        clear hz
        go_wp2
        go_ret3
        exact ⟨.inl ⟨rfl, HZ.out⟩, hbel⟩
      · have HF := Lib.hid hf
        clear hf
        go_wp2
        go_ret3
        exact ⟨.inr ⟨f, days, rfl, HF.out⟩, hbel⟩
end Go.Proofs.Ytlegehjdojhfgaa
