/- The contracts of OddsAfter, VotesNeeded and HitsOf. -/
import Derived.Test.YtllmillhdmknpaaBelC
import Derived.Test.YtllmillhdmknpaaStrong
import Derived.Test.YtllmillhdmknpaaFirst
import Derived.Test.YtllmillhdmknpaaSums
import Derived.Deep.LoopGhost
namespace Go.Proofs.Ytllmillhdmknpaa
open Go.RowKit
set_option linter.unusedVariables false

attribute [local go_sem high] run_max2

set_option maxHeartbeats 1000000 in
theorem ValidExperts_any (g n c : Nat) (z : Nat → Nat) (w : World) (h1 : 1 ≤ n) (h5 : n ≤ 5) (hz : ∀ i, z i ≤ 1000) (hc : (∀ i, i < n → w.cell? ⟨g, i, none⟩ = some (.int .i64 ((z i : Nat) : Int)))) :
    Calls Try.prog 79 #[.slice (some ⟨g, 0, none⟩) n c] w fun e w' => e = .returned (.bool true) ∧ w = w' := by
  have HC := Lib.hid hc
  have HZ := Lib.hid hz
  clear hc hz
  have hn : inB (n : Int) 1 5 = true := inB_mk (by omega) (by omega)
  have hn0 : (0 : Int) < (n : Int) := by omega
  have hn5 : (n : Int) ≤ 5 := by omega
  go_enter Try.func79, Try.ntmps79
  go_wp2
  go_loop [7] (fun i => ∃ k : Nat, k ≤ n ∧ i = .int .i64 k) (fun i => n - (intOf i).toNat)
  case atStart => exact ⟨0, Nat.zero_le _, rfl⟩
  case round =>
    obtain ⟨k, hk, rfl⟩ := hrel
    by_cases hlt : k < n
    · have hlti : (k : Int) < (n : Int) := by omega
      have hki : (0 : Int) ≤ (k : Int) := by omega
      have c0 := HC.out k hlt
      have hi : inB ((z k : Nat) : Int) 0 1000 = true := inB_mk (by omega) (by have := HZ.out k; omega)
      go_wp2_with (first | (go_at_call 77; refine (within_any _ _ _ _).mono ?_; rintro e w' ⟨rfl, rfl⟩) | go_in)
      go_round
      case rel => exact ⟨k + 1, by omega, by go_num⟩
      case measure => simp [intOf]; omega
    · obtain rfl : k = n := by omega
      go_wp2_with (first | (go_at_call 77; refine (within_any _ _ _ _).mono ?_; rintro e w' ⟨rfl, rfl⟩) | go_in)
      go_ret
      exact ⟨by simp, rfl⟩

set_option maxHeartbeats 1000000 in
theorem l15Ok_any (g n c : Nat) (z : Nat → Nat) (w : World) (h1 : 1 ≤ n) (h5 : n ≤ 5) (hz : ∀ i, z i ≤ 1000) (hc : (∀ i, i < n → w.cell? ⟨g, i, none⟩ = some (.int .i64 ((z i : Nat) : Int)))) :
    Calls Try.prog 83 #[.slice (some ⟨g, 0, none⟩) n c] w fun e w' => e = .returned (.bool true) ∧ w = w' := by
  have HC := Lib.hid hc
  have HZ := Lib.hid hz
  clear hc hz
  have hn : inB (n : Int) 1 5 = true := inB_mk (by omega) (by omega)
  have hn0 : (0 : Int) < (n : Int) := by omega
  have hn5 : (n : Int) ≤ 5 := by omega
  go_enter Try.func83, Try.ntmps83
  go_wp2
  go_loop [3] (fun i => ∃ k : Nat, k ≤ n ∧ i = .int .i64 k) (fun i => n - (intOf i).toNat)
  case atStart => exact ⟨0, Nat.zero_le _, rfl⟩
  case round =>
    obtain ⟨k, hk, rfl⟩ := hrel
    by_cases hlt : k < n
    · have hlti : (k : Int) < (n : Int) := by omega
      have hki : (0 : Int) ≤ (k : Int) := by omega
      have c0 := HC.out k hlt
      have hi : inB ((z k : Nat) : Int) 0 1000 = true := inB_mk (by omega) (by have := HZ.out k; omega)
      go_wp2_with (first | (go_at_call 73; refine (l00In_any _ _ _ _).mono ?_; rintro e w' ⟨rfl, rfl⟩) | go_in)
      go_round
      case rel => exact ⟨k + 1, by omega, by go_num⟩
      case measure => simp [intOf]; omega
    · obtain rfl : k = n := by omega
      go_wp2_with (first | (go_at_call 73; refine (l00In_any _ _ _ _).mono ?_; rintro e w' ⟨rfl, rfl⟩) | go_in)
      go_ret
      exact ⟨by simp, rfl⟩

set_option maxHeartbeats 2000000 in
theorem oddsI_any (g1 g2 n c1 c2 : Nat) (z : Nat → Nat) (b : Nat → Bool) (B C : Nat) (w : World) (h1 : 1 ≤ n) (h5 : n ≤ 5) (hz : ∀ i, z i ≤ 1000) (hB : B ≤ 1000) (hBC : (1000 : Int) - (B : Int) = (C : Int)) (hg1 : g1 < w.heap.size) (hg2 : g2 < w.heap.size) (hc : (∀ i, i < n → w.cell? ⟨g1, i, none⟩ = some (.int .i64 ((z i : Nat) : Int)))) (hd : (∀ i, i < n → w.cell? ⟨g2, i, none⟩ = some (.bool (b i)))) (h0 : (bel z b (B, C) n).1 + (bel z b (B, C) n).2 ≠ 0) :
    Calls Try.prog 23 #[.slice (some ⟨g1, 0, none⟩) n c1, .slice (some ⟨g2, 0, none⟩) n c2, .int .i64 (B : Int)] w fun e w' => e = .returned (.tuple #[.int .i64 ((valN (bel z b (B, C) n) : Nat) : Int), .int .i64 0]) ∧ Below w.heap.size w w' := by
  have HC := Lib.hid hc
  have HD := Lib.hid hd
  have HZ := Lib.hid hz
  have HL := Lib.hid (bel_le (z := z) (b := b) (p := (B, C)) hB (by show C ≤ 1000; omega) hz)
  have H0 := Lib.hid h0
  clear hc hd hz h0
  have hi : inB (B : Int) 0 1000 = true := inB_mk (by omega) (by omega)
  go_enter Try.func23, Try.ntmps23
  go_wp2_with (first | (go_at_call 79; refine (ValidExperts_any g1 n _ z _ h1 h5 HZ.out HC.out).mono ?_; rintro e w' ⟨rfl, rfl⟩) | (go_at_call 77; refine (within_any _ _ _ _).mono ?_; rintro e w' ⟨rfl, rfl⟩) | go_in)
  go_loopw [33] (fun i wr => ∃ (k : Nat), k ≤ n ∧ i = .int .i64 k ∧ wr.rowIs w.heap.size 109 2 (belRow (bel z b (B, C) k).1 (bel z b (B, C) k).2) ∧ Below w.heap.size w wr) (fun i _ => n - (intOf i).toNat)
  case atStart => exact ⟨0, Nat.zero_le _, rfl, bel_new _ _ _ _ rfl rfl, below_new _ _⟩
  case round =>
    obtain ⟨k, hk, rfl, hr, hbel⟩ := hrel
    have HR := Lib.hid hr
    clear hr
    by_cases hlt : k < n
    · have hlti : (k : Int) < (n : Int) := by omega
      have hki : (0 : Int) ≤ (k : Int) := by omega
      have c0 := (bcell hbel _ _ hg1).trans (HC.out k hlt)
      have d0 := (bcell hbel _ _ hg2).trans (HD.out k hlt)
      go_wp2_with fail
      refine (vote_any w.heap.size _ _ (z k) (b k) _ HR.out (HL.out k).1 (HL.out k).2 (HZ.out k)).mono ?_
      rintro e w2 ⟨rfl, hr2, hg⟩
      have HR2 := Lib.hid hr2
      have HB2 := Lib.hid (hbel.grown hg hbel.size (fun j hj => by cases hj; exact Nat.le_refl _))
      clear hr2 hg c0 d0
      go_wp2
      go_roundw
      case rel => first | exact ⟨k + 1, by omega, by go_num, HR2.out, HB2.out⟩ | ((repeat apply Exists.intro); exact ⟨⟨k + 1, by omega, by go_num, HR2.out, HB2.out⟩, rfl⟩)
      case measure => simp [intOf]; omega
    · obtain rfl : k = n := by omega
      go_wp2_with fail
      refine (value_any w.heap.size _ _ _ HR.out (HL.out k).1 (HL.out k).2 H0.out).mono ?_
      rintro e w2 ⟨rfl, hb2⟩
      have C2 := hbel.trans (hb2.mono hbel.size)
      go_wp2
      go_ret2
      exact ⟨rfl, C2⟩

set_option maxHeartbeats 2000000 in
theorem votes_any (s B C G : Nat) (v1 v2 : Int) (w : World) (hs : s ≤ 1000) (hB : B ≤ 1000) (hG : G ≤ 1000) (hBC : (1000 : Int) - (B : Int) = (C : Int)) (h0 : ∀ k, k ≤ 5 → (bel (fun _ => s) (fun _ => true) (B, C) k).1 + (bel (fun _ => s) (fun _ => true) (B, C) k).2 ≠ 0) (hv : firstP (fun k => decide (G ≤ valN (bel (fun _ => s) (fun _ => true) (B, C) k))) 6 = (v1, v2)) :
    Calls Try.prog 24 #[.int .i64 (s : Int), .int .i64 (B : Int), .int .i64 (G : Int)] w fun e w' => e = .returned (.tuple #[.int .i64 v1, .int .i64 v2]) ∧ Below w.heap.size w w' := by
  have HV := Lib.hid hv
  have H0 := Lib.hid h0
  have HL := Lib.hid (bel_le (z := fun _ => s) (b := fun _ => true) (p := (B, C)) hB (by show C ≤ 1000; omega) (fun _ => hs))
  clear hv h0
  have i1 : inB (s : Int) 0 1000 = true := inB_mk (by omega) (by omega)
  have i2 : inB (B : Int) 0 1000 = true := inB_mk (by omega) (by omega)
  have i3 : inB (G : Int) 0 1000 = true := inB_mk (by omega) (by omega)
  go_enter Try.func24, Try.ntmps24
  go_wp2_with (first | (go_at_call 77; refine (within_any _ _ _ _).mono ?_; rintro e w' ⟨rfl, rfl⟩) | go_in)
  go_loopw [9] (fun i wr => ∃ (k : Nat), k ≤ 6 ∧ i = .int .i64 k ∧ wr.rowIs w.heap.size 109 2 (belRow (bel (fun _ => s) (fun _ => true) (B, C) k).1 (bel (fun _ => s) (fun _ => true) (B, C) k).2) ∧ firstP (fun k => decide (G ≤ valN (bel (fun _ => s) (fun _ => true) (B, C) k))) k = (0, 3) ∧ Below w.heap.size w wr) (fun i _ => 6 - (intOf i).toNat)
  case atStart => exact ⟨0, Nat.zero_le _, rfl, bel_new _ _ _ _ rfl rfl, rfl, below_new _ _⟩
  case round =>
    obtain ⟨k, hk, rfl, hr, hf, hbel⟩ := hrel
    have HR := Lib.hid hr
    have HF := Lib.hid hf
    clear hr hf
    by_cases hlt : k < 6
    case neg =>
      obtain rfl : k = 6 := by omega
      have hv := HV.out
      rw [HF.out] at hv
      simp only [Prod.mk.injEq] at hv
      obtain ⟨rfl, rfl⟩ := hv
      go_wp2
      go_ret2
      exact ⟨rfl, hbel⟩
    have hki : (k : Int) ≤ 5 := by omega
    go_wp2_with fail
    refine (value_any w.heap.size _ _ _ HR.out (HL.out k).1 (HL.out k).2 (H0.out k (by omega))).mono ?_
    rintro e w2 ⟨rfl, hb2⟩
    have HR2 := Lib.hid (row_below HR.out hb2 HR.out.lt)
    have C2 := hbel.trans (hb2.mono hbel.size)
    clear hb2 HR
    by_cases hc : G ≤ valN (bel (fun _ => s) (fun _ => true) (B, C) k)
    · have hv := HV.out
      rw [first_stay (first_yes (p := (fun k => decide (G ≤ valN (bel (fun _ => s) (fun _ => true) (B, C) k)))) HF.out (decide_eq_true hc)) rfl 6 (by omega)] at hv
      simp only [Prod.mk.injEq] at hv
      obtain ⟨rfl, rfl⟩ := hv
      have hci : (G : Int) ≤ ((valN (bel (fun _ => s) (fun _ => true) (B, C) k) : Nat) : Int) := by omega
      clear hc
      go_wp2
      go_ret2
      exact ⟨rfl, C2⟩
    · have hcd : decide (G ≤ valN (bel (fun _ => s) (fun _ => true) (B, C) k)) = false := decide_eq_false hc
      have HF2 := Lib.hid (first_no (p := (fun k => decide (G ≤ valN (bel (fun _ => s) (fun _ => true) (B, C) k)))) HF.out (decide_eq_false hc))
      clear hc
      go_wp2_with fail
      refine (vote_any w.heap.size _ _ s true _ HR2.out (HL.out k).1 (HL.out k).2 hs).mono ?_
      rintro e w3 ⟨rfl, hr3, hg⟩
      have HR3 := Lib.hid hr3
      have HB3 := Lib.hid (C2.grown hg C2.size (fun j hj => by cases hj; exact Nat.le_refl _))
      clear hr3 hg hcd
      go_wp2
      go_roundw
      case rel => first | exact ⟨k + 1, by omega, by go_num, HR3.out, HF2.out, HB3.out⟩ | ((repeat apply Exists.intro); exact ⟨⟨k + 1, by omega, by go_num, HR3.out, HF2.out, HB3.out⟩, rfl⟩)
      case measure => simp [intOf]; omega

set_option maxHeartbeats 2000000 in
theorem l15Odds_any (g1 g2 n c1 c2 : Nat) (z : Nat → Nat) (b : Nat → Bool) (B C : Nat) (w : World) (h5 : n ≤ 5) (hz : ∀ i, z i ≤ 1000) (hB : B ≤ 1000) (hBC : (1000 : Int) - (B : Int) = (C : Int)) (hc : (∀ i, i < n → w.cell? ⟨g1, i, none⟩ = some (.int .i64 ((z i : Nat) : Int)))) (hd : (∀ i, i < n → w.cell? ⟨g2, i, none⟩ = some (.bool (b i)))) :
    Calls Try.prog 85 #[.slice (some ⟨g1, 0, none⟩) n c1, .slice (some ⟨g2, 0, none⟩) n c2, .int .i64 (B : Int)] w fun e w' => e = .returned (.tuple #[.int .i64 (((raw z b (B, C) n).1 : Nat) : Int), .int .i64 (((raw z b (B, C) n).2 : Nat) : Int)]) ∧ w = w' := by
  have HC := Lib.hid hc
  have HD := Lib.hid hd
  have HZ := Lib.hid hz
  have HL := Lib.hid (raw_le (z := z) (b := b) (p := (B, C)) hB (by show C ≤ 1000; omega) hz)
  clear hc hd hz
  go_enter Try.func85, Try.ntmps85
  go_wp2
  go_loop [8, 9, 10] (fun y x i => ∃ k : Nat, k ≤ n ∧ i = .int .i64 k ∧ y = .int .i64 (((raw z b (B, C) k).1 : Nat) : Int) ∧ x = .int .i64 (((raw z b (B, C) k).2 : Nat) : Int)) (fun _ _ i => n - (intOf i).toNat)
  case atStart => exact ⟨0, Nat.zero_le _, rfl, rfl, rfl⟩
  case round =>
    obtain ⟨k, hk, rfl, rfl, rfl⟩ := hrel
    by_cases hlt : k < n
    · have hlti : (k : Int) < (n : Int) := by omega
      have hki : (0 : Int) ≤ (k : Int) := by omega
      have c0 := HC.out k hlt
      have d0 := HD.out k hlt
      obtain ⟨t, ht⟩ : ∃ t, 1000 - z k = t := ⟨_, rfl⟩
      have hzk := HZ.out k
      have e1 : (1000 : Int) - ((z k : Nat) : Int) = (t : Int) := by omega
      have HN := Lib.hid (HL.out (k + 1))
      have HS := Lib.hid (show raw z b (B, C) (k + 1) = ((raw z b (B, C) k).1 * sh (b k) (z k), (raw z b (B, C) k).2 * (1000 - sh (b k) (z k))) from rfl)
      obtain ⟨y, hy⟩ : ∃ y, (raw z b (B, C) k).1 = y := ⟨_, rfl⟩
      obtain ⟨x, hx⟩ : ∃ x, (raw z b (B, C) k).2 = x := ⟨_, rfl⟩
      have HY := Lib.hid (And.intro hy hx)
      rw [hy, hx]
      have HT := Lib.hid ht
      have hp := pow_le5 (k := k + 1) (by omega)
      cases hb : b k with
      | true =>
        rw [hb] at d0
        have HX := Lib.hid (show raw z b (B, C) (k + 1) = (y * (z k), x * (t)) by rw [HS.out, hb, HY.out.1, HY.out.2]; show (y * z k, x * (1000 - z k)) = _; rw [HT.out])
        have p1 := cast_mul (show y * (z k) ≤ 1000000000000000000 by have h := HN.out; rw [HX.out] at h; exact Nat.le_trans h.1 hp)
        have p2 := cast_mul (show x * (t) ≤ 1000000000000000000 by have h := HN.out; rw [HX.out] at h; exact Nat.le_trans h.2 hp)
        obtain ⟨p1, q1⟩ := p1
        obtain ⟨p2, q2⟩ := p2
        clear hp hy hx ht hb
        go_wp2
        go_round
        case rel => exact ⟨k + 1, by omega, by go_num, by rw [HX.out]; simp, by rw [HX.out]; simp⟩
        case measure => simp [intOf]; omega
      | false =>
        rw [hb] at d0
        have HX := Lib.hid (show raw z b (B, C) (k + 1) = (y * (t), x * (z k)) by rw [HS.out, hb, HY.out.1, HY.out.2]; show (y * (1000 - z k), x * (1000 - (1000 - z k))) = _; rw [HT.out, show 1000 - t = z k by omega])
        have p1 := cast_mul (show y * (t) ≤ 1000000000000000000 by have h := HN.out; rw [HX.out] at h; exact Nat.le_trans h.1 hp)
        have p2 := cast_mul (show x * (z k) ≤ 1000000000000000000 by have h := HN.out; rw [HX.out] at h; exact Nat.le_trans h.2 hp)
        obtain ⟨p1, q1⟩ := p1
        obtain ⟨p2, q2⟩ := p2
        clear hp hy hx ht hb
        go_wp2
        go_round
        case rel => exact ⟨k + 1, by omega, by go_num, by rw [HX.out]; simp, by rw [HX.out]; simp⟩
        case measure => simp [intOf]; omega
    · obtain rfl : k = n := by omega
      go_wp2
      go_ret2
      exact ⟨rfl, rfl⟩

set_option maxHeartbeats 2000000 in
theorem l15Quotient_any (y n : Nat) (w : World) (hy : y ≤ 1000000000000000000) (hn : n ≤ 1000000000000000000) (h0 : 0 < y + n) :
    Calls Try.prog 86 #[.int .i64 (y : Int), .int .i64 (n : Int)] w fun e w' => e = .returned (.int .i64 ((quoN (y, n) : Nat) : Int)) ∧ w = w' := by
  have HP := Lib.hid (nrm_pos 20 y n h0)
  have HB := Lib.hid (And.intro (big20 hy) (big20 hn))
  go_enter Try.func86, Try.ntmps86
  go_wp2
  go_loopg [0, 1] 20 (fun f a b wr => ∃ (u v : Nat), a = .int .i64 (u : Int) ∧ b = .int .i64 (v : Int) ∧ nrm f u v = nrm 20 y n ∧ u ≤ 1000000000000 * 10 ^ f ∧ v ≤ 1000000000000 * 10 ^ f ∧ u ≤ 1000000000000000000 ∧ v ≤ 1000000000000000000 ∧ w = wr)
  case atStart => exact ⟨y, n, rfl, rfl, rfl, HB.out.1, HB.out.2, hy, hn, rfl⟩
  case round =>
    obtain ⟨u, v, rfl, rfl, hnr, hu, hv, hu2, hv2, rfl⟩ := hrel
    have HN := Lib.hid hnr
    have HU := Lib.hid (And.intro hu hv)
    clear hnr hu hv hy hn h0
    by_cases hb : 1000000000000 < u ∨ 1000000000000 < v
    · have hgk : ∃ f, gk = f + 1 := by
        cases gk with
        | zero => have := HU.out; simp at this; omega
        | succ f => exact ⟨f, rfl⟩
      obtain ⟨f, rfl⟩ := hgk
      have HN2 := Lib.hid ((nrm_big hb).symm.trans HN.out)
      have HU2 := Lib.hid (And.intro (pow_down HU.out.1) (pow_down HU.out.2))
      clear HN HU
      rcases (show (1000000000000 : Int) < (u : Int) ∨ (decide ((1000000000000 : Int) < (u : Int)) = false ∧ (1000000000000 : Int) < (v : Int)) from by by_cases h : 1000000000000 < u; exact .inl (by omega); exact .inr ⟨by simp; omega, by omega⟩) with h1 | ⟨h1, h2⟩
      all_goals
        clear hb
        go_wp2
        go_roundg f
        case measure => omega
        case rel => exact ⟨u / 10, v / 10, by go_num, by go_num, HN2.out, HU2.out.1, HU2.out.2, by omega, by omega, by first | rfl | trivial⟩
    · have h1 : decide ((1000000000000 : Int) < (u : Int)) = false := by simp; omega
      have h2 : decide ((1000000000000 : Int) < (v : Int)) = false := by simp; omega
      have hu3 : (u : Int) ≤ 1000000000000 := by omega
      have hv3 : (v : Int) ≤ 1000000000000 := by omega
      have hX : nrm 20 y n = (u, v) := by rw [← HN.out]; exact nrm_small (by omega) (by omega)
      have h3 : 0 < u + v := by have := HP.out; rw [hX] at this; exact this
      have h4 : (0 : Int) < (u : Int) + (v : Int) := by omega
      have HQ := Lib.hid (show ((quoN (y, n) : Nat) : Int) = 1000 * (u : Int) / ((u : Int) + (v : Int)) by unfold quoN; rw [hX]; exact cast_val u v)
      have h5 : 0 ≤ 1000 * (u : Int) / ((u : Int) + (v : Int)) := Int.ediv_nonneg (by omega) (by omega)
      have h6 : 1000 * (u : Int) / ((u : Int) + (v : Int)) ≤ 1000 * (u : Int) := Int.ediv_le_self _ (by omega)
      clear hb hX h3
      go_wp2
      go_ret
      exact ⟨by rw [HQ.out]; rfl, rfl⟩

set_option maxHeartbeats 2000000 in
theorem oddsS_any (g1 g2 n c1 c2 : Nat) (z : Nat → Nat) (b : Nat → Bool) (B C : Nat) (w : World) (h1 : 1 ≤ n) (h5 : n ≤ 5) (hz : ∀ i, z i ≤ 1000) (hB : B ≤ 1000) (hBC : (1000 : Int) - (B : Int) = (C : Int)) (hc : (∀ i, i < n → w.cell? ⟨g1, i, none⟩ = some (.int .i64 ((z i : Nat) : Int)))) (hd : (∀ i, i < n → w.cell? ⟨g2, i, none⟩ = some (.bool (b i)))) (h0 : (raw z b (B, C) n).1 + (raw z b (B, C) n).2 ≠ 0) :
    Calls Try.prog 25 #[.slice (some ⟨g1, 0, none⟩) n c1, .slice (some ⟨g2, 0, none⟩) n c2, .int .i64 (B : Int)] w fun e w' => e = .returned (.tuple #[.int .i64 ((quoN (raw z b (B, C) n) : Nat) : Int), .int .i64 0]) ∧ w = w' := by
  have HC := Lib.hid hc
  have HD := Lib.hid hd
  have HZ := Lib.hid hz
  have hrl := raw_le (z := z) (b := b) (p := (B, C)) hB (by show C ≤ 1000; omega) hz n
  have hp := pow_le5 h5
  obtain ⟨r1, r2⟩ := hrl
  have q1 : (raw z b (B, C) n).1 ≤ 1000000000000000000 := Nat.le_trans r1 hp
  have q2 : (raw z b (B, C) n).2 ≤ 1000000000000000000 := Nat.le_trans r2 hp
  have h3 : 0 < (raw z b (B, C) n).1 + (raw z b (B, C) n).2 := by omega
  have h4 : ((((raw z b (B, C) n).1 : Nat) : Int) + (((raw z b (B, C) n).2 : Nat) : Int) == 0) = false := by rw [beq_eq_false_iff_ne]; omega
  have HQ := Lib.hid (And.intro q1 q2)
  have q1i : (((raw z b (B, C) n).1 : Nat) : Int) ≤ 1000000000000000000 := by omega
  have q2i : (((raw z b (B, C) n).2 : Nat) : Int) ≤ 1000000000000000000 := by omega
  clear hc hd hz hp r1 r2 h0 q1 q2
  have hi : inB (B : Int) 0 1000 = true := inB_mk (by omega) (by omega)
  go_enter Try.func25, Try.ntmps25
  go_wp2_with (first | (go_at_call 83; refine (l15Ok_any g1 n _ z _ h1 h5 HZ.out HC.out).mono ?_; rintro e w' ⟨rfl, rfl⟩) | (go_at_call 73; refine (l00In_any _ _ _ _).mono ?_; rintro e w' ⟨rfl, rfl⟩) | (go_at_call 84; go_in) | (go_at_call 85; refine (l15Odds_any g1 g2 n _ _ z b B C _ h5 HZ.out hB hBC HC.out HD.out).mono ?_; rintro e w' ⟨rfl, rfl⟩) | (go_at_call 86; refine (l15Quotient_any _ _ _ HQ.out.1 HQ.out.2 h3).mono ?_; rintro e w' ⟨rfl, rfl⟩))
  go_ret2
  exact ⟨rfl, rfl⟩

set_option maxHeartbeats 1000000 in
theorem hits_any (r a : Nat) (w : World) (h : r ≤ a) (ha : a ≤ 100) :
    Calls Try.prog 26 #[.int .i64 (r : Int), .int .i64 (a : Int)] w fun e w' => e = .returned (.tuple #[.int .i64 (rdiv (1000 * ((r : Int) + 1)) ((a : Int) + 2)), .int .i64 0]) ∧ w = w' := by
  have i1 : inB (a : Int) 0 1000000 = true := inB_mk (by omega) (by omega)
  have i2 : inB (r : Int) 0 (a : Int) = true := inB_mk (by omega) (by omega)
  go_enter Try.func26, Try.ntmps26
  go_wp2_with (first | (go_at_call 77; refine (within_any _ _ _ _).mono ?_; rintro e w' ⟨rfl, rfl⟩) | (go_at_call 78; refine (divRound_any _ _ _ (by omega) (by omega) (by omega) (by omega)).mono ?_; rintro e w' ⟨rfl, rfl⟩))
  go_ret2
  exact ⟨rfl, rfl⟩
end Go.Proofs.Ytllmillhdmknpaa
