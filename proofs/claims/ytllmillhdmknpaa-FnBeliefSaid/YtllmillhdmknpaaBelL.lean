/- Here stands the walk of the law on beliefs. -/
import Derived.Test.YtllmillhdmknpaaBelB
namespace Go.Proofs.Ytllmillhdmknpaa
open Go.ChangeShapes Go.WideShapes Go.ChangeAt Go.RowKit Go.Deep
open Go.ChangeMaps (open_string shut_string)
set_option linter.unusedVariables false

attribute [local go_sem high] run_max2
set_option maxRecDepth 20000 in
set_option maxHeartbeats 8000000 in
theorem lawFnBelief (a0 : Option Addr) (n0 c0 : Nat) (z0 : Nat → Int) (a1 : Option Addr) (n1 c1 : Nat) (z1 : Nat → Int) (w : World) (h0 : InBytes w a0 n0 z0) (h1 : InBytes w a1 n1 z1) :
    Calls Try.prog 5 #[.slice a0 n0 c0, .slice a1 n1 c1] w fun e w' => e = .returned (.bool true) ∧ Below w.heap.size w w' := by
  have H := Lib.hid h0
  have K := Lib.hid h1
  have hm0 : n0 ≤ maxLen := h0.2
  have hm1 : n1 ≤ maxLen := h1.2
  unfold maxLen at hm0 hm1
  clear h0 h1
  by_cases hl : n0 ≤ 1048576
  case neg =>
    have hl2 : (1048576 : Int) < (n0 : Int) := by omega
    go_enter Try.func5, Try.ntmps5
    go_wp2_with (go_at_call 21; go_in)
    go_ret
    exact ⟨rfl, Below.refl _ _⟩
  by_cases hk : n1 ≤ 1048576
  case neg =>
    have hl2 : decide ((1048576 : Int) < (n0 : Int)) = false := by simp; omega
    have hl3 : (1048576 : Int) < (n1 : Int) := by omega
    go_enter Try.func5, Try.ntmps5
    go_wp2_with (go_at_call 21; go_in)
    go_ret
    exact ⟨rfl, Below.refl _ _⟩
  have hl2 : decide ((1048576 : Int) < (n0 : Int)) = false := by simp; omega
  have hl3 : decide ((1048576 : Int) < (n1 : Int)) = false := by simp; omega
  go_enter Try.func5, Try.ntmps5
  go_wp2_with (go_at_call 21; go_in)
  refine (r8At_any a0 n0 c0 0 80 z0 _ H.out hl (by omega) (by omega) (by omega)).mono ?_
  rintro e w1 ⟨i, hi, rfl, rfl⟩
  obtain ⟨B, hB⟩ : ∃ B, 100 + 10 * i = B := ⟨_, rfl⟩
  have eB : (100 : Int) + 10 * (i : Int) = (B : Int) := by omega
  go_wp2_with fail
  refine (r8At_any a0 n0 c0 1 49 z0 _ H.out hl (by omega) (by omega) (by omega)).mono ?_
  rintro e w1 ⟨j, hj, rfl, rfl⟩
  obtain ⟨S, hS⟩ : ∃ S, 500 + 10 * j = S := ⟨_, rfl⟩
  have eS : (500 : Int) + 10 * (j : Int) = (S : Int) := by omega
  obtain ⟨C, hC⟩ : ∃ C, 1000 - B = C := ⟨_, rfl⟩
  obtain ⟨D, hD⟩ : ∃ D, 1000 - S = D := ⟨_, rfl⟩
  have b1 : 100 ≤ B ∧ B ≤ 890 := by omega
  have s1 : 500 ≤ S ∧ S ≤ 980 := by omega
  obtain ⟨b1, b2⟩ := b1
  obtain ⟨s1, s2⟩ := s1
  have eC : (1000 : Int) - (B : Int) = (C : Int) := by omega
  have eD : (1000 : Int) - (S : Int) = (D : Int) := by omega
  have hchk := check_at hi hj
  rw [hB, hS] at hchk
  unfold checkP at hchk
  simp only [hC, hD, Bool.and_eq_true, decide_eq_true_eq] at hchk
  obtain ⟨k1, k2, k3, k4, k5, k6, k7, k8, k9, k10, q1, q2, q3, q4, q5⟩ := hchk
  have HQ := Lib.hid (show ∀ m, 1 ≤ m → m ≤ 5 → ((raw (fun _ => S) (fun _ => true) (B, C) m).1 + (raw (fun _ => S) (fun _ => true) (B, C) m).2 ≠ 0 ∧ (bel (fun _ => S) (fun _ => true) (B, C) m).1 + (bel (fun _ => S) (fun _ => true) (B, C) m).2 ≠ 0 ∧ valN (bel (fun _ => S) (fun _ => true) (B, C) m) = quoN (raw (fun _ => S) (fun _ => true) (B, C) m)) from fun m h1 h2 => by
    obtain rfl | rfl | rfl | rfl | rfl : m = 1 ∨ m = 2 ∨ m = 3 ∨ m = 4 ∨ m = 5 := by omega
    · exact q1
    · exact q2
    · exact q3
    · exact q4
    · exact q5)
  clear q1 q2 q3 q4 q5
  obtain ⟨vy, hvy⟩ : ∃ v, valN (bel (fun _ => S) (fun _ => true) (B, C) 1) = v := ⟨_, rfl⟩
  obtain ⟨vn, hvn⟩ : ∃ v, valN (bel (fun _ => S) (fun _ => false) (B, C) 1) = v := ⟨_, rfl⟩
  obtain ⟨vt2, hvt⟩ : ∃ v, valN (bel (fun _ => S) (fun _ => true) (B, C) 2) = v := ⟨_, rfl⟩
  rw [hvn] at k6
  rw [hvy] at k7 k8 k10
  rw [hvt] at k8 k9
  have H1 := Lib.hid k1
  have H2 := Lib.hid k2
  have H3 := Lib.hid k3
  have H4 := Lib.hid k4
  have H5 := Lib.hid k5
  have HY := Lib.hid hvy
  have HNo := Lib.hid hvn
  have HT := Lib.hid hvt
  have H10 := Lib.hid k10
  clear k1 k2 k3 k4 k5 k10 hvy hvn hvt hB hS
  have R0 := lit1 w 2 4 500 (fun _ => true) (show _ = true from rfl)
  have Q0 := Lib.hid R0
  clear R0
  go_wp2_with fail
  refine (oddsI_any w.heap.size (w.heap.size + 1) 1 _ _ (fun _ => 500) (fun _ => true) B C _ (by omega) (by omega) (fun _ => by omega) (by omega) eC (by first | (simp; done) | (simp; omega)) (by simp) Q0.out.1 Q0.out.2 H2.out).mono ?_
  rintro e w10 ⟨rfl, hbw10⟩
  rw [H1.out]
  have Bw10 := (((Below.refl w.heap.size w).alloc (Below.refl w.heap.size w).size (.cells #[.int .i64 ((500 : Nat) : Int)] 2)).alloc (by have := (Below.refl w.heap.size w).size; first | (simp; done) | (simp; omega)) (.cells #[.bool true] 4)).trans (hbw10.mono (by have := (Below.refl w.heap.size w).size; first | (simp; done) | (simp; omega)))
  clear hbw10 Q0
  have R1 := lit2 w10 2 4 S (fun k : Nat => decide (k = 0)) (show _ = true from rfl) (show _ = false from rfl)
  have Q1 := Lib.hid R1
  clear R1
  go_wp2_with fail
  refine (oddsI_any w10.heap.size (w10.heap.size + 1) 2 _ _ (fun _ => S) (fun k : Nat => decide (k = 0)) B C _ (by omega) (by omega) (fun _ => by omega) (by omega) eC (by first | (simp; done) | (simp; omega)) (by simp) Q1.out.1 Q1.out.2 H4.out).mono ?_
  rintro e w11 ⟨rfl, hbw11⟩
  rw [H3.out]
  have Bw11 := ((Bw10.alloc Bw10.size (.cells #[.int .i64 (S : Int), .int .i64 (S : Int)] 2)).alloc (by have := Bw10.size; first | (simp; done) | (simp; omega)) (.cells #[.bool true, .bool false] 4)).trans (hbw11.mono (by have := Bw10.size; first | (simp; done) | (simp; omega)))
  clear hbw11 Q1
  have R2 := lit1 w11 2 4 S (fun _ => true) (show _ = true from rfl)
  have Q2 := Lib.hid R2
  clear R2
  go_wp2_with fail
  refine (oddsI_any w11.heap.size (w11.heap.size + 1) 1 _ _ (fun _ => S) (fun _ => true) B C _ (by omega) (by omega) (fun _ => by omega) (by omega) eC (by first | (simp; done) | (simp; omega)) (by simp) Q2.out.1 Q2.out.2 (HQ.out 1 (by omega) (by omega)).2.1).mono ?_
  rintro e w12 ⟨rfl, hbw12⟩
  rw [HY.out]
  have Bw12 := ((Bw11.alloc Bw11.size (.cells #[.int .i64 (S : Int)] 2)).alloc (by have := Bw11.size; first | (simp; done) | (simp; omega)) (.cells #[.bool true] 4)).trans (hbw12.mono (by have := Bw11.size; first | (simp; done) | (simp; omega)))
  clear hbw12 Q2
  have R3 := lit1 w12 2 4 S (fun _ => false) (show _ = false from rfl)
  have Q3 := Lib.hid R3
  clear R3
  go_wp2_with fail
  refine (oddsI_any w12.heap.size (w12.heap.size + 1) 1 _ _ (fun _ => S) (fun _ => false) B C _ (by omega) (by omega) (fun _ => by omega) (by omega) eC (by first | (simp; done) | (simp; omega)) (by simp) Q3.out.1 Q3.out.2 H5.out).mono ?_
  rintro e w13 ⟨rfl, hbw13⟩
  rw [HNo.out]
  have Bw13 := ((Bw12.alloc Bw12.size (.cells #[.int .i64 (S : Int)] 2)).alloc (by have := Bw12.size; first | (simp; done) | (simp; omega)) (.cells #[.bool false] 4)).trans (hbw13.mono (by have := Bw12.size; first | (simp; done) | (simp; omega)))
  clear hbw13 Q3
  have R4 := lit2 w13 2 4 S (fun _ => true) (show _ = true from rfl) (show _ = true from rfl)
  have Q4 := Lib.hid R4
  clear R4
  go_wp2_with fail
  refine (oddsI_any w13.heap.size (w13.heap.size + 1) 2 _ _ (fun _ => S) (fun _ => true) B C _ (by omega) (by omega) (fun _ => by omega) (by omega) eC (by first | (simp; done) | (simp; omega)) (by simp) Q4.out.1 Q4.out.2 (HQ.out 2 (by omega) (by omega)).2.1).mono ?_
  rintro e w14 ⟨rfl, hbw14⟩
  rw [HT.out]
  have Bw14 := ((Bw13.alloc Bw13.size (.cells #[.int .i64 (S : Int), .int .i64 (S : Int)] 2)).alloc (by have := Bw13.size; first | (simp; done) | (simp; omega)) (.cells #[.bool true, .bool true] 4)).trans (hbw14.mono (by have := Bw13.size; first | (simp; done) | (simp; omega)))
  clear hbw14 Q4
  have d1 : decide (vy < B) = false := by simp; omega
  have d2 : decide (B < vn) = false := by simp; omega
  have d3 : decide (vt2 < vy) = false := by simp; omega
  have d4 : decide ((1000 : Int) < (vt2 : Int)) = false := by simp; omega
  have m1 := cast_mul (show B * S ≤ 1000000 from Nat.le_trans (Nat.mul_le_mul (show B ≤ 1000 by omega) (show S ≤ 1000 by omega)) (by omega))
  have m2 := cast_mul (show C * D ≤ 1000000 from Nat.le_trans (Nat.mul_le_mul (show C ≤ 1000 by omega) (show D ≤ 1000 by omega)) (by omega))
  obtain ⟨m1, m3⟩ := m1
  obtain ⟨m2, m4⟩ := m2
  have m5 : 1000 * (B : Int) * (S : Int) = 1000 * ((B : Int) * (S : Int)) := Int.mul_assoc _ _ _
  have m6 : (0 : Int) < (B : Int) * (S : Int) + (C : Int) * (D : Int) := by have := Int.mul_pos (show (0 : Int) < (B : Int) by omega) (show (0 : Int) < (S : Int) by omega); omega
  have m7 : 1000 * ((B : Int) * (S : Int)) / ((B : Int) * (S : Int) + (C : Int) * (D : Int)) = (vy : Int) := by rw [← m5, H10.out]; simp
  have g0 := Lib.hid (K.out.below Bw14)
  go_wp2_with fail
  refine (r8At_any a1 n1 c1 0 50 z1 _ g0.out hk (by omega) (by omega) (by omega)).mono ?_
  rintro e w1 ⟨gg, hgg, rfl, rfl⟩
  obtain ⟨G, hG⟩ : ∃ G, 500 + 10 * gg = G := ⟨_, rfl⟩
  have eG : (500 : Int) + 10 * (gg : Int) = (G : Int) := by omega
  have g1 : G ≤ 1000 := by omega
  clear m1 m2 m3 m4 m5 m6 m7 d1 d2 d3 d4 hG H1 H2 H3 H4 H5 H10 k6 k7 k8 k9
  obtain ⟨⟨v1, v2⟩, hv⟩ : ∃ r, firstP (fun k => decide (G ≤ valN (bel (fun _ => S) (fun _ => true) (B, C) k))) 6 = r := ⟨_, rfl⟩
  have HV := Lib.hid hv
  clear hv
  have HZ0 := Lib.hid (show ∀ k, k ≤ 5 → (bel (fun _ => S) (fun _ => true) (B, C) k).1 + (bel (fun _ => S) (fun _ => true) (B, C) k).2 ≠ 0 from fun k hk => by
    cases k with
    | zero => show B + C ≠ 0; omega
    | succ k => exact (HQ.out (k + 1) (by omega) hk).2.1)
  have HV0 := Lib.hid (show valN (bel (fun _ => S) (fun _ => true) (B, C) 0) = B by show 1000 * B / (B + C) = B; rw [show B + C = 1000 by omega]; omega)
  go_wp2_with fail
  refine (votes_any S B C G v1 v2 _ (by omega) (by omega) g1 eC HZ0.out HV.out).mono ?_
  rintro e w20 ⟨rfl, hb20⟩
  have B20 := Bw14.trans (hb20.mono Bw14.size)
  clear hb20 HZ0
  obtain ⟨i0, hi0, hz0, hz1, hz2⟩ := info_parts infoI
  obtain ⟨j0, hj0, hy0, hy1, hy2⟩ := info_parts infoB
  have HC := Lib.hid (first_cases HV.out)
  have hcase : (v2 = 0 ∧ ∃ k : Nat, k < 6 ∧ v1 = (k : Int)) ∨ (v1 = 0 ∧ v2 = 3) := HC.out
  clear HC
  rcases hcase with ⟨rfl, k, hk6, rfl⟩ | ⟨rfl, rfl⟩
  · have hk7 : (k : Int) ≤ 5 := by omega
    have hk8 : decide ((5 : Int) < (k : Int)) = false := by simp; omega
    have hk9 : decide ((k : Int) < 0) = false := by simp
    by_cases hst : G ≤ B
    · have hst2 : (G : Int) ≤ (B : Int) := by omega
      have HR0 := Lib.hid (show rch (fun k => decide (G ≤ valN (bel (fun _ => S) (fun _ => true) (B, C) k))) 0 = 0 from rch_hit (k := 0) (first_yes rfl (by show decide (G ≤ valN (bel (fun _ => S) (fun _ => true) (B, C) 0)) = true; rw [HV0.out]; simpa using hst)))
      clear hst
      go_wp2
      go_loopw [20, 21, 22, 23] (fun l v r i wr => ∃ (m : Nat), m ≤ 5 ∧ i = .int .i64 ((m : Int) + 1) ∧ wr.ownsRow w.heap.size 2 1 l m (List.replicate m (.int .i64 (S : Int))) ∧ wr.ownsRow w.heap.size 4 1 v m (List.replicate m (.bool true)) ∧ r = .int .i64 (rch (fun k => decide (G ≤ valN (bel (fun _ => S) (fun _ => true) (B, C) k))) m) ∧ Below w.heap.size w wr) (fun _ _ _ i _ => (6 - intOf i).toNat)
      case atStart => exact ⟨0, by omega, rfl, (World.ownsRow_lit w20 #[] 0 B20.size (by decide) rfl).alloc _, by simpa using World.ownsRow_lit (w20.alloc (.cells #[] 2)) (e := 4) (size := 1) (base := w.heap.size) #[] 0 (by have := B20.size; simp; omega) (by decide) rfl, by rw [HR0.out], (B20.alloc B20.size _).alloc (by have := B20.size; simp; omega) _⟩
      case round =>
        obtain ⟨m, hm, rfl, hol, hov, rfl, hbel⟩ := hrel
        have HOL := Lib.hid hol
        have HOV := Lib.hid hov
        clear hol hov HR0
        by_cases hlt : m < 5
        · have hmi : (m : Int) + 1 ≤ 5 := by omega
          have hbs := hbel.size
          go_wp2_with (at_builtin; refine wpList_append_own _ rfl _ _ 38 rfl w.heap.size 2 i0 (.int .i64 0) 1 8 Try.underlying38 hi0 hz0 hz1 hz2 rfl (by decide) _ _ _ rfl (HOL.out.alloc _) ⟨wr.heap.size, 0, none⟩ 1 1 [.int .i64 (S : Int)] rfl rfl (one_new _ _ _) ?c2 ?c3 ?c4 ?c5 ?_)
          case c2 => intro u hu; simp at hu; subst hu; rfl
          case c3 => unfold maxLen; omega
          case c4 => omega
          case c5 => simp; omega
          intro l2 w2 hol2 hgr2
          intro _
          have HOL2 := Lib.hid (show w2.ownsRow w.heap.size 2 1 l2 (m + 1) (List.replicate (m + 1) (.int .i64 (S : Int))) by rw [List.replicate_succ']; exact hol2)
          have HOV2 := Lib.hid ((HOV.out.alloc _).kept hgr2 (own_apart (HOV.out.alloc (.cells #[.int .i64 (S : Int)] 2)) (HOL.out.alloc _) (by decide)))
          have B2 := below_grown hbel HOL.out hgr2
          clear hol2 hgr2 HOL HOV
          have hbs2 := B2.size
          go_wp2_with (at_builtin; refine wpList_append_own _ rfl _ _ 39 rfl w.heap.size 4 j0 (.bool false) 1 1 Try.underlying39 hj0 hy0 hy1 hy2 rfl (by decide) _ _ _ rfl (HOV2.out.alloc _) ⟨w2.heap.size, 0, none⟩ 1 1 [.bool true] rfl rfl (one_new _ _ _) ?e2 ?e3 ?e4 ?e5 ?_)
          case e2 => intro u hu; simp at hu; subst hu; rfl
          case e3 => unfold maxLen; omega
          case e4 => omega
          case e5 => simp; omega
          intro l3 w3 hov3 hgr3
          intro _
          have HOV3 := Lib.hid (show w3.ownsRow w.heap.size 4 1 l3 (m + 1) (List.replicate (m + 1) (.bool true)) by rw [List.replicate_succ']; exact hov3)
          have HOL3 := Lib.hid ((HOL2.out.alloc _).kept hgr3 (own_apart (HOL2.out.alloc (.cells #[.bool true] 4)) (HOV2.out.alloc _) (by decide)))
          have B3 := below_grown B2 HOV2.out hgr3
          clear hov3 hgr3 HOL2 HOV2
          obtain ⟨ga, ca, rfl⟩ := own_some HOL3.out (by omega)
          obtain ⟨gb, cb, rfl⟩ := own_some HOV3.out (by omega)
          go_wp2_with fail
          refine (oddsS_any ga gb (m + 1) _ _ (fun _ => S) (fun _ => true) B C _ (by omega) (by omega) (fun _ => by omega) (by omega) eC (cells_rep HOL3.out) (cells_rep HOV3.out) (HQ.out (m + 1) (by omega) (by omega)).1).mono ?_
          rintro e w4 ⟨rfl, rfl⟩
          rw [← (HQ.out (m + 1) (by omega) (by omega)).2.2]
          have hfc := first_cases (p := (fun k => decide (G ≤ valN (bel (fun _ => S) (fun _ => true) (B, C) k)))) (n := m + 1) (v1 := (firstP (fun k => decide (G ≤ valN (bel (fun _ => S) (fun _ => true) (B, C) k))) (m + 1)).1) (v2 := (firstP (fun k => decide (G ≤ valN (bel (fun _ => S) (fun _ => true) (B, C) k))) (m + 1)).2) rfl
          rcases hfc with ⟨f1, k, _, f2⟩ | ⟨f1, f2⟩
          · have hR1 : rch (fun k => decide (G ≤ valN (bel (fun _ => S) (fun _ => true) (B, C) k))) m = (k : Int) := rch_hit (Prod.ext f2 f1)
            have HR2 := Lib.hid (show rch (fun k => decide (G ≤ valN (bel (fun _ => S) (fun _ => true) (B, C) k))) (m + 1) = (k : Int) by rw [rch_stay f1, hR1])
            rw [hR1]
            clear f1 f2 hR1
            have hk0 : decide ((k : Int) < 0) = false := by simp
            go_wp2
            go_roundw
            case rel => first | exact ⟨m + 1, by omega, by go_num, HOL3.out, HOV3.out, by rw [HR2.out], B3⟩ | ((repeat apply Exists.intro); exact ⟨⟨m + 1, by omega, by go_num, HOL3.out, HOV3.out, by rw [HR2.out], B3⟩, rfl⟩)
            case measure => (simp [intOf]; try omega)
          · have hF : firstP (fun k => decide (G ≤ valN (bel (fun _ => S) (fun _ => true) (B, C) k))) (m + 1) = (0, 3) := Prod.ext f1 f2
            rw [rch_none hF]
            clear f1 f2
            by_cases hc : G ≤ valN (bel (fun _ => S) (fun _ => true) (B, C) (m + 1))
            · have HR2 := Lib.hid (show rch (fun k => decide (G ≤ valN (bel (fun _ => S) (fun _ => true) (B, C) k))) (m + 1) = ((m : Int) + 1) by rw [rch_hit (k := m + 1) (first_yes hF (decide_eq_true hc))]; omega)
              have hci : (G : Int) ≤ ((valN (bel (fun _ => S) (fun _ => true) (B, C) (m + 1)) : Nat) : Int) := by omega
              clear hc hF
              go_wp2
              go_roundw
              case rel => first | exact ⟨m + 1, by omega, by go_num, HOL3.out, HOV3.out, by rw [HR2.out], B3⟩ | ((repeat apply Exists.intro); exact ⟨⟨m + 1, by omega, by go_num, HOL3.out, HOV3.out, by rw [HR2.out], B3⟩, rfl⟩)
              case measure => (simp [intOf]; try omega)
            · have HR2 := Lib.hid (show rch (fun k => decide (G ≤ valN (bel (fun _ => S) (fun _ => true) (B, C) k))) (m + 1) = -1 from rch_none (first_no hF (decide_eq_false hc)))
              have hcd : decide (G ≤ valN (bel (fun _ => S) (fun _ => true) (B, C) (m + 1))) = false := decide_eq_false hc
              clear hc hF
              go_wp2
              go_roundw
              case rel => first | exact ⟨m + 1, by omega, by go_num, HOL3.out, HOV3.out, by rw [HR2.out], B3⟩ | ((repeat apply Exists.intro); exact ⟨⟨m + 1, by omega, by go_num, HOL3.out, HOV3.out, by rw [HR2.out], B3⟩, rfl⟩)
              case measure => (simp [intOf]; try omega)
        · obtain rfl : m = 5 := by omega
          have HI := Lib.hid (K.out.below hbel)
          rw [rch_hit (k := k) HV.out]
          go_wp2_with fail
          refine (r8At_any a1 n1 c1 1 60 z1 _ HI.out hk (by omega) (by omega) (by omega)).mono ?_
          rintro e w5 ⟨al, hal, rfl, rfl⟩
          obtain ⟨al1, hal1⟩ : ∃ x, al + 1 = x := ⟨_, rfl⟩
          have eA : (al : Int) + 1 = (al1 : Int) := by omega
          go_wp2_with fail
          refine (r8At_any a1 n1 c1 2 al1 z1 _ HI.out hk (by omega) (by omega) (by omega)).mono ?_
          rintro e w5 ⟨rt, hrt, rfl, rfl⟩
          clear eA
          obtain ⟨df, hdf⟩ : ∃ d, al - rt = d := ⟨_, rfl⟩
          have eD2 : (al : Int) - (rt : Int) = (df : Int) := by omega
          have hh := hits_at hal (show rt ≤ al by omega)
          unfold hitsB at hh
          rw [hdf] at hh
          simp only [Bool.and_eq_true, decide_eq_true_eq] at hh
          obtain ⟨t1, t2, t3, t4⟩ := hh
          clear hdf
          go_wp2_with (first | (go_at_call 26; refine (hits_any _ _ _ (by omega) (by omega)).mono ?_; rintro e w' ⟨rfl, rfl⟩) | (go_at_call 27; go_in))
          go_ret
          exact ⟨by first | rfl | (simp; omega), hbel⟩
    · have hst2 : decide (G ≤ B) = false := by simp; omega
      have HR0 := Lib.hid (show rch (fun k => decide (G ≤ valN (bel (fun _ => S) (fun _ => true) (B, C) k))) 0 = -1 from rch_none (first_no rfl (by show decide (G ≤ valN (bel (fun _ => S) (fun _ => true) (B, C) 0)) = false; rw [HV0.out]; simpa using hst)))
      clear hst
      go_wp2
      go_loopw [20, 21, 22, 23] (fun l v r i wr => ∃ (m : Nat), m ≤ 5 ∧ i = .int .i64 ((m : Int) + 1) ∧ wr.ownsRow w.heap.size 2 1 l m (List.replicate m (.int .i64 (S : Int))) ∧ wr.ownsRow w.heap.size 4 1 v m (List.replicate m (.bool true)) ∧ r = .int .i64 (rch (fun k => decide (G ≤ valN (bel (fun _ => S) (fun _ => true) (B, C) k))) m) ∧ Below w.heap.size w wr) (fun _ _ _ i _ => (6 - intOf i).toNat)
      case atStart => exact ⟨0, by omega, rfl, (World.ownsRow_lit w20 #[] 0 B20.size (by decide) rfl).alloc _, by simpa using World.ownsRow_lit (w20.alloc (.cells #[] 2)) (e := 4) (size := 1) (base := w.heap.size) #[] 0 (by have := B20.size; simp; omega) (by decide) rfl, by rw [HR0.out], (B20.alloc B20.size _).alloc (by have := B20.size; simp; omega) _⟩
      case round =>
        obtain ⟨m, hm, rfl, hol, hov, rfl, hbel⟩ := hrel
        have HOL := Lib.hid hol
        have HOV := Lib.hid hov
        clear hol hov HR0
        by_cases hlt : m < 5
        · have hmi : (m : Int) + 1 ≤ 5 := by omega
          have hbs := hbel.size
          go_wp2_with (at_builtin; refine wpList_append_own _ rfl _ _ 38 rfl w.heap.size 2 i0 (.int .i64 0) 1 8 Try.underlying38 hi0 hz0 hz1 hz2 rfl (by decide) _ _ _ rfl (HOL.out.alloc _) ⟨wr.heap.size, 0, none⟩ 1 1 [.int .i64 (S : Int)] rfl rfl (one_new _ _ _) ?c2 ?c3 ?c4 ?c5 ?_)
          case c2 => intro u hu; simp at hu; subst hu; rfl
          case c3 => unfold maxLen; omega
          case c4 => omega
          case c5 => simp; omega
          intro l2 w2 hol2 hgr2
          intro _
          have HOL2 := Lib.hid (show w2.ownsRow w.heap.size 2 1 l2 (m + 1) (List.replicate (m + 1) (.int .i64 (S : Int))) by rw [List.replicate_succ']; exact hol2)
          have HOV2 := Lib.hid ((HOV.out.alloc _).kept hgr2 (own_apart (HOV.out.alloc (.cells #[.int .i64 (S : Int)] 2)) (HOL.out.alloc _) (by decide)))
          have B2 := below_grown hbel HOL.out hgr2
          clear hol2 hgr2 HOL HOV
          have hbs2 := B2.size
          go_wp2_with (at_builtin; refine wpList_append_own _ rfl _ _ 39 rfl w.heap.size 4 j0 (.bool false) 1 1 Try.underlying39 hj0 hy0 hy1 hy2 rfl (by decide) _ _ _ rfl (HOV2.out.alloc _) ⟨w2.heap.size, 0, none⟩ 1 1 [.bool true] rfl rfl (one_new _ _ _) ?e2 ?e3 ?e4 ?e5 ?_)
          case e2 => intro u hu; simp at hu; subst hu; rfl
          case e3 => unfold maxLen; omega
          case e4 => omega
          case e5 => simp; omega
          intro l3 w3 hov3 hgr3
          intro _
          have HOV3 := Lib.hid (show w3.ownsRow w.heap.size 4 1 l3 (m + 1) (List.replicate (m + 1) (.bool true)) by rw [List.replicate_succ']; exact hov3)
          have HOL3 := Lib.hid ((HOL2.out.alloc _).kept hgr3 (own_apart (HOL2.out.alloc (.cells #[.bool true] 4)) (HOV2.out.alloc _) (by decide)))
          have B3 := below_grown B2 HOV2.out hgr3
          clear hov3 hgr3 HOL2 HOV2
          obtain ⟨ga, ca, rfl⟩ := own_some HOL3.out (by omega)
          obtain ⟨gb, cb, rfl⟩ := own_some HOV3.out (by omega)
          go_wp2_with fail
          refine (oddsS_any ga gb (m + 1) _ _ (fun _ => S) (fun _ => true) B C _ (by omega) (by omega) (fun _ => by omega) (by omega) eC (cells_rep HOL3.out) (cells_rep HOV3.out) (HQ.out (m + 1) (by omega) (by omega)).1).mono ?_
          rintro e w4 ⟨rfl, rfl⟩
          rw [← (HQ.out (m + 1) (by omega) (by omega)).2.2]
          have hfc := first_cases (p := (fun k => decide (G ≤ valN (bel (fun _ => S) (fun _ => true) (B, C) k)))) (n := m + 1) (v1 := (firstP (fun k => decide (G ≤ valN (bel (fun _ => S) (fun _ => true) (B, C) k))) (m + 1)).1) (v2 := (firstP (fun k => decide (G ≤ valN (bel (fun _ => S) (fun _ => true) (B, C) k))) (m + 1)).2) rfl
          rcases hfc with ⟨f1, k, _, f2⟩ | ⟨f1, f2⟩
          · have hR1 : rch (fun k => decide (G ≤ valN (bel (fun _ => S) (fun _ => true) (B, C) k))) m = (k : Int) := rch_hit (Prod.ext f2 f1)
            have HR2 := Lib.hid (show rch (fun k => decide (G ≤ valN (bel (fun _ => S) (fun _ => true) (B, C) k))) (m + 1) = (k : Int) by rw [rch_stay f1, hR1])
            rw [hR1]
            clear f1 f2 hR1
            have hk0 : decide ((k : Int) < 0) = false := by simp
            go_wp2
            go_roundw
            case rel => first | exact ⟨m + 1, by omega, by go_num, HOL3.out, HOV3.out, by rw [HR2.out], B3⟩ | ((repeat apply Exists.intro); exact ⟨⟨m + 1, by omega, by go_num, HOL3.out, HOV3.out, by rw [HR2.out], B3⟩, rfl⟩)
            case measure => (simp [intOf]; try omega)
          · have hF : firstP (fun k => decide (G ≤ valN (bel (fun _ => S) (fun _ => true) (B, C) k))) (m + 1) = (0, 3) := Prod.ext f1 f2
            rw [rch_none hF]
            clear f1 f2
            by_cases hc : G ≤ valN (bel (fun _ => S) (fun _ => true) (B, C) (m + 1))
            · have HR2 := Lib.hid (show rch (fun k => decide (G ≤ valN (bel (fun _ => S) (fun _ => true) (B, C) k))) (m + 1) = ((m : Int) + 1) by rw [rch_hit (k := m + 1) (first_yes hF (decide_eq_true hc))]; omega)
              have hci : (G : Int) ≤ ((valN (bel (fun _ => S) (fun _ => true) (B, C) (m + 1)) : Nat) : Int) := by omega
              clear hc hF
              go_wp2
              go_roundw
              case rel => first | exact ⟨m + 1, by omega, by go_num, HOL3.out, HOV3.out, by rw [HR2.out], B3⟩ | ((repeat apply Exists.intro); exact ⟨⟨m + 1, by omega, by go_num, HOL3.out, HOV3.out, by rw [HR2.out], B3⟩, rfl⟩)
              case measure => (simp [intOf]; try omega)
            · have HR2 := Lib.hid (show rch (fun k => decide (G ≤ valN (bel (fun _ => S) (fun _ => true) (B, C) k))) (m + 1) = -1 from rch_none (first_no hF (decide_eq_false hc)))
              have hcd : decide (G ≤ valN (bel (fun _ => S) (fun _ => true) (B, C) (m + 1))) = false := decide_eq_false hc
              clear hc hF
              go_wp2
              go_roundw
              case rel => first | exact ⟨m + 1, by omega, by go_num, HOL3.out, HOV3.out, by rw [HR2.out], B3⟩ | ((repeat apply Exists.intro); exact ⟨⟨m + 1, by omega, by go_num, HOL3.out, HOV3.out, by rw [HR2.out], B3⟩, rfl⟩)
              case measure => (simp [intOf]; try omega)
        · obtain rfl : m = 5 := by omega
          have HI := Lib.hid (K.out.below hbel)
          rw [rch_hit (k := k) HV.out]
          go_wp2_with fail
          refine (r8At_any a1 n1 c1 1 60 z1 _ HI.out hk (by omega) (by omega) (by omega)).mono ?_
          rintro e w5 ⟨al, hal, rfl, rfl⟩
          obtain ⟨al1, hal1⟩ : ∃ x, al + 1 = x := ⟨_, rfl⟩
          have eA : (al : Int) + 1 = (al1 : Int) := by omega
          go_wp2_with fail
          refine (r8At_any a1 n1 c1 2 al1 z1 _ HI.out hk (by omega) (by omega) (by omega)).mono ?_
          rintro e w5 ⟨rt, hrt, rfl, rfl⟩
          clear eA
          obtain ⟨df, hdf⟩ : ∃ d, al - rt = d := ⟨_, rfl⟩
          have eD2 : (al : Int) - (rt : Int) = (df : Int) := by omega
          have hh := hits_at hal (show rt ≤ al by omega)
          unfold hitsB at hh
          rw [hdf] at hh
          simp only [Bool.and_eq_true, decide_eq_true_eq] at hh
          obtain ⟨t1, t2, t3, t4⟩ := hh
          clear hdf
          go_wp2_with (first | (go_at_call 26; refine (hits_any _ _ _ (by omega) (by omega)).mono ?_; rintro e w' ⟨rfl, rfl⟩) | (go_at_call 27; go_in))
          go_ret
          exact ⟨by first | rfl | (simp; omega), hbel⟩
  · skip
    by_cases hst : G ≤ B
    · have hst2 : (G : Int) ≤ (B : Int) := by omega
      have HR0 := Lib.hid (show rch (fun k => decide (G ≤ valN (bel (fun _ => S) (fun _ => true) (B, C) k))) 0 = 0 from rch_hit (k := 0) (first_yes rfl (by show decide (G ≤ valN (bel (fun _ => S) (fun _ => true) (B, C) 0)) = true; rw [HV0.out]; simpa using hst)))
      clear hst
      go_wp2
      go_loopw [20, 21, 22, 23] (fun l v r i wr => ∃ (m : Nat), m ≤ 5 ∧ i = .int .i64 ((m : Int) + 1) ∧ wr.ownsRow w.heap.size 2 1 l m (List.replicate m (.int .i64 (S : Int))) ∧ wr.ownsRow w.heap.size 4 1 v m (List.replicate m (.bool true)) ∧ r = .int .i64 (rch (fun k => decide (G ≤ valN (bel (fun _ => S) (fun _ => true) (B, C) k))) m) ∧ Below w.heap.size w wr) (fun _ _ _ i _ => (6 - intOf i).toNat)
      case atStart => exact ⟨0, by omega, rfl, (World.ownsRow_lit w20 #[] 0 B20.size (by decide) rfl).alloc _, by simpa using World.ownsRow_lit (w20.alloc (.cells #[] 2)) (e := 4) (size := 1) (base := w.heap.size) #[] 0 (by have := B20.size; simp; omega) (by decide) rfl, by rw [HR0.out], (B20.alloc B20.size _).alloc (by have := B20.size; simp; omega) _⟩
      case round =>
        obtain ⟨m, hm, rfl, hol, hov, rfl, hbel⟩ := hrel
        have HOL := Lib.hid hol
        have HOV := Lib.hid hov
        clear hol hov HR0
        by_cases hlt : m < 5
        · have hmi : (m : Int) + 1 ≤ 5 := by omega
          have hbs := hbel.size
          go_wp2_with (at_builtin; refine wpList_append_own _ rfl _ _ 38 rfl w.heap.size 2 i0 (.int .i64 0) 1 8 Try.underlying38 hi0 hz0 hz1 hz2 rfl (by decide) _ _ _ rfl (HOL.out.alloc _) ⟨wr.heap.size, 0, none⟩ 1 1 [.int .i64 (S : Int)] rfl rfl (one_new _ _ _) ?c2 ?c3 ?c4 ?c5 ?_)
          case c2 => intro u hu; simp at hu; subst hu; rfl
          case c3 => unfold maxLen; omega
          case c4 => omega
          case c5 => simp; omega
          intro l2 w2 hol2 hgr2
          intro _
          have HOL2 := Lib.hid (show w2.ownsRow w.heap.size 2 1 l2 (m + 1) (List.replicate (m + 1) (.int .i64 (S : Int))) by rw [List.replicate_succ']; exact hol2)
          have HOV2 := Lib.hid ((HOV.out.alloc _).kept hgr2 (own_apart (HOV.out.alloc (.cells #[.int .i64 (S : Int)] 2)) (HOL.out.alloc _) (by decide)))
          have B2 := below_grown hbel HOL.out hgr2
          clear hol2 hgr2 HOL HOV
          have hbs2 := B2.size
          go_wp2_with (at_builtin; refine wpList_append_own _ rfl _ _ 39 rfl w.heap.size 4 j0 (.bool false) 1 1 Try.underlying39 hj0 hy0 hy1 hy2 rfl (by decide) _ _ _ rfl (HOV2.out.alloc _) ⟨w2.heap.size, 0, none⟩ 1 1 [.bool true] rfl rfl (one_new _ _ _) ?e2 ?e3 ?e4 ?e5 ?_)
          case e2 => intro u hu; simp at hu; subst hu; rfl
          case e3 => unfold maxLen; omega
          case e4 => omega
          case e5 => simp; omega
          intro l3 w3 hov3 hgr3
          intro _
          have HOV3 := Lib.hid (show w3.ownsRow w.heap.size 4 1 l3 (m + 1) (List.replicate (m + 1) (.bool true)) by rw [List.replicate_succ']; exact hov3)
          have HOL3 := Lib.hid ((HOL2.out.alloc _).kept hgr3 (own_apart (HOL2.out.alloc (.cells #[.bool true] 4)) (HOV2.out.alloc _) (by decide)))
          have B3 := below_grown B2 HOV2.out hgr3
          clear hov3 hgr3 HOL2 HOV2
          obtain ⟨ga, ca, rfl⟩ := own_some HOL3.out (by omega)
          obtain ⟨gb, cb, rfl⟩ := own_some HOV3.out (by omega)
          go_wp2_with fail
          refine (oddsS_any ga gb (m + 1) _ _ (fun _ => S) (fun _ => true) B C _ (by omega) (by omega) (fun _ => by omega) (by omega) eC (cells_rep HOL3.out) (cells_rep HOV3.out) (HQ.out (m + 1) (by omega) (by omega)).1).mono ?_
          rintro e w4 ⟨rfl, rfl⟩
          rw [← (HQ.out (m + 1) (by omega) (by omega)).2.2]
          have hfc := first_cases (p := (fun k => decide (G ≤ valN (bel (fun _ => S) (fun _ => true) (B, C) k)))) (n := m + 1) (v1 := (firstP (fun k => decide (G ≤ valN (bel (fun _ => S) (fun _ => true) (B, C) k))) (m + 1)).1) (v2 := (firstP (fun k => decide (G ≤ valN (bel (fun _ => S) (fun _ => true) (B, C) k))) (m + 1)).2) rfl
          rcases hfc with ⟨f1, k, _, f2⟩ | ⟨f1, f2⟩
          · have hR1 : rch (fun k => decide (G ≤ valN (bel (fun _ => S) (fun _ => true) (B, C) k))) m = (k : Int) := rch_hit (Prod.ext f2 f1)
            have HR2 := Lib.hid (show rch (fun k => decide (G ≤ valN (bel (fun _ => S) (fun _ => true) (B, C) k))) (m + 1) = (k : Int) by rw [rch_stay f1, hR1])
            rw [hR1]
            clear f1 f2 hR1
            have hk0 : decide ((k : Int) < 0) = false := by simp
            go_wp2
            go_roundw
            case rel => first | exact ⟨m + 1, by omega, by go_num, HOL3.out, HOV3.out, by rw [HR2.out], B3⟩ | ((repeat apply Exists.intro); exact ⟨⟨m + 1, by omega, by go_num, HOL3.out, HOV3.out, by rw [HR2.out], B3⟩, rfl⟩)
            case measure => (simp [intOf]; try omega)
          · have hF : firstP (fun k => decide (G ≤ valN (bel (fun _ => S) (fun _ => true) (B, C) k))) (m + 1) = (0, 3) := Prod.ext f1 f2
            rw [rch_none hF]
            clear f1 f2
            by_cases hc : G ≤ valN (bel (fun _ => S) (fun _ => true) (B, C) (m + 1))
            · have HR2 := Lib.hid (show rch (fun k => decide (G ≤ valN (bel (fun _ => S) (fun _ => true) (B, C) k))) (m + 1) = ((m : Int) + 1) by rw [rch_hit (k := m + 1) (first_yes hF (decide_eq_true hc))]; omega)
              have hci : (G : Int) ≤ ((valN (bel (fun _ => S) (fun _ => true) (B, C) (m + 1)) : Nat) : Int) := by omega
              clear hc hF
              go_wp2
              go_roundw
              case rel => first | exact ⟨m + 1, by omega, by go_num, HOL3.out, HOV3.out, by rw [HR2.out], B3⟩ | ((repeat apply Exists.intro); exact ⟨⟨m + 1, by omega, by go_num, HOL3.out, HOV3.out, by rw [HR2.out], B3⟩, rfl⟩)
              case measure => (simp [intOf]; try omega)
            · have HR2 := Lib.hid (show rch (fun k => decide (G ≤ valN (bel (fun _ => S) (fun _ => true) (B, C) k))) (m + 1) = -1 from rch_none (first_no hF (decide_eq_false hc)))
              have hcd : decide (G ≤ valN (bel (fun _ => S) (fun _ => true) (B, C) (m + 1))) = false := decide_eq_false hc
              clear hc hF
              go_wp2
              go_roundw
              case rel => first | exact ⟨m + 1, by omega, by go_num, HOL3.out, HOV3.out, by rw [HR2.out], B3⟩ | ((repeat apply Exists.intro); exact ⟨⟨m + 1, by omega, by go_num, HOL3.out, HOV3.out, by rw [HR2.out], B3⟩, rfl⟩)
              case measure => (simp [intOf]; try omega)
        · obtain rfl : m = 5 := by omega
          have HI := Lib.hid (K.out.below hbel)
          rw [rch_none HV.out]
          go_wp2_with fail
          refine (r8At_any a1 n1 c1 1 60 z1 _ HI.out hk (by omega) (by omega) (by omega)).mono ?_
          rintro e w5 ⟨al, hal, rfl, rfl⟩
          obtain ⟨al1, hal1⟩ : ∃ x, al + 1 = x := ⟨_, rfl⟩
          have eA : (al : Int) + 1 = (al1 : Int) := by omega
          go_wp2_with fail
          refine (r8At_any a1 n1 c1 2 al1 z1 _ HI.out hk (by omega) (by omega) (by omega)).mono ?_
          rintro e w5 ⟨rt, hrt, rfl, rfl⟩
          clear eA
          obtain ⟨df, hdf⟩ : ∃ d, al - rt = d := ⟨_, rfl⟩
          have eD2 : (al : Int) - (rt : Int) = (df : Int) := by omega
          have hh := hits_at hal (show rt ≤ al by omega)
          unfold hitsB at hh
          rw [hdf] at hh
          simp only [Bool.and_eq_true, decide_eq_true_eq] at hh
          obtain ⟨t1, t2, t3, t4⟩ := hh
          clear hdf
          go_wp2_with (first | (go_at_call 26; refine (hits_any _ _ _ (by omega) (by omega)).mono ?_; rintro e w' ⟨rfl, rfl⟩) | (go_at_call 27; go_in))
          go_ret
          exact ⟨by first | rfl | (simp; omega), hbel⟩
    · have hst2 : decide (G ≤ B) = false := by simp; omega
      have HR0 := Lib.hid (show rch (fun k => decide (G ≤ valN (bel (fun _ => S) (fun _ => true) (B, C) k))) 0 = -1 from rch_none (first_no rfl (by show decide (G ≤ valN (bel (fun _ => S) (fun _ => true) (B, C) 0)) = false; rw [HV0.out]; simpa using hst)))
      clear hst
      go_wp2
      go_loopw [20, 21, 22, 23] (fun l v r i wr => ∃ (m : Nat), m ≤ 5 ∧ i = .int .i64 ((m : Int) + 1) ∧ wr.ownsRow w.heap.size 2 1 l m (List.replicate m (.int .i64 (S : Int))) ∧ wr.ownsRow w.heap.size 4 1 v m (List.replicate m (.bool true)) ∧ r = .int .i64 (rch (fun k => decide (G ≤ valN (bel (fun _ => S) (fun _ => true) (B, C) k))) m) ∧ Below w.heap.size w wr) (fun _ _ _ i _ => (6 - intOf i).toNat)
      case atStart => exact ⟨0, by omega, rfl, (World.ownsRow_lit w20 #[] 0 B20.size (by decide) rfl).alloc _, by simpa using World.ownsRow_lit (w20.alloc (.cells #[] 2)) (e := 4) (size := 1) (base := w.heap.size) #[] 0 (by have := B20.size; simp; omega) (by decide) rfl, by rw [HR0.out], (B20.alloc B20.size _).alloc (by have := B20.size; simp; omega) _⟩
      case round =>
        obtain ⟨m, hm, rfl, hol, hov, rfl, hbel⟩ := hrel
        have HOL := Lib.hid hol
        have HOV := Lib.hid hov
        clear hol hov HR0
        by_cases hlt : m < 5
        · have hmi : (m : Int) + 1 ≤ 5 := by omega
          have hbs := hbel.size
          go_wp2_with (at_builtin; refine wpList_append_own _ rfl _ _ 38 rfl w.heap.size 2 i0 (.int .i64 0) 1 8 Try.underlying38 hi0 hz0 hz1 hz2 rfl (by decide) _ _ _ rfl (HOL.out.alloc _) ⟨wr.heap.size, 0, none⟩ 1 1 [.int .i64 (S : Int)] rfl rfl (one_new _ _ _) ?c2 ?c3 ?c4 ?c5 ?_)
          case c2 => intro u hu; simp at hu; subst hu; rfl
          case c3 => unfold maxLen; omega
          case c4 => omega
          case c5 => simp; omega
          intro l2 w2 hol2 hgr2
          intro _
          have HOL2 := Lib.hid (show w2.ownsRow w.heap.size 2 1 l2 (m + 1) (List.replicate (m + 1) (.int .i64 (S : Int))) by rw [List.replicate_succ']; exact hol2)
          have HOV2 := Lib.hid ((HOV.out.alloc _).kept hgr2 (own_apart (HOV.out.alloc (.cells #[.int .i64 (S : Int)] 2)) (HOL.out.alloc _) (by decide)))
          have B2 := below_grown hbel HOL.out hgr2
          clear hol2 hgr2 HOL HOV
          have hbs2 := B2.size
          go_wp2_with (at_builtin; refine wpList_append_own _ rfl _ _ 39 rfl w.heap.size 4 j0 (.bool false) 1 1 Try.underlying39 hj0 hy0 hy1 hy2 rfl (by decide) _ _ _ rfl (HOV2.out.alloc _) ⟨w2.heap.size, 0, none⟩ 1 1 [.bool true] rfl rfl (one_new _ _ _) ?e2 ?e3 ?e4 ?e5 ?_)
          case e2 => intro u hu; simp at hu; subst hu; rfl
          case e3 => unfold maxLen; omega
          case e4 => omega
          case e5 => simp; omega
          intro l3 w3 hov3 hgr3
          intro _
          have HOV3 := Lib.hid (show w3.ownsRow w.heap.size 4 1 l3 (m + 1) (List.replicate (m + 1) (.bool true)) by rw [List.replicate_succ']; exact hov3)
          have HOL3 := Lib.hid ((HOL2.out.alloc _).kept hgr3 (own_apart (HOL2.out.alloc (.cells #[.bool true] 4)) (HOV2.out.alloc _) (by decide)))
          have B3 := below_grown B2 HOV2.out hgr3
          clear hov3 hgr3 HOL2 HOV2
          obtain ⟨ga, ca, rfl⟩ := own_some HOL3.out (by omega)
          obtain ⟨gb, cb, rfl⟩ := own_some HOV3.out (by omega)
          go_wp2_with fail
          refine (oddsS_any ga gb (m + 1) _ _ (fun _ => S) (fun _ => true) B C _ (by omega) (by omega) (fun _ => by omega) (by omega) eC (cells_rep HOL3.out) (cells_rep HOV3.out) (HQ.out (m + 1) (by omega) (by omega)).1).mono ?_
          rintro e w4 ⟨rfl, rfl⟩
          rw [← (HQ.out (m + 1) (by omega) (by omega)).2.2]
          have hfc := first_cases (p := (fun k => decide (G ≤ valN (bel (fun _ => S) (fun _ => true) (B, C) k)))) (n := m + 1) (v1 := (firstP (fun k => decide (G ≤ valN (bel (fun _ => S) (fun _ => true) (B, C) k))) (m + 1)).1) (v2 := (firstP (fun k => decide (G ≤ valN (bel (fun _ => S) (fun _ => true) (B, C) k))) (m + 1)).2) rfl
          rcases hfc with ⟨f1, k, _, f2⟩ | ⟨f1, f2⟩
          · have hR1 : rch (fun k => decide (G ≤ valN (bel (fun _ => S) (fun _ => true) (B, C) k))) m = (k : Int) := rch_hit (Prod.ext f2 f1)
            have HR2 := Lib.hid (show rch (fun k => decide (G ≤ valN (bel (fun _ => S) (fun _ => true) (B, C) k))) (m + 1) = (k : Int) by rw [rch_stay f1, hR1])
            rw [hR1]
            clear f1 f2 hR1
            have hk0 : decide ((k : Int) < 0) = false := by simp
            go_wp2
            go_roundw
            case rel => first | exact ⟨m + 1, by omega, by go_num, HOL3.out, HOV3.out, by rw [HR2.out], B3⟩ | ((repeat apply Exists.intro); exact ⟨⟨m + 1, by omega, by go_num, HOL3.out, HOV3.out, by rw [HR2.out], B3⟩, rfl⟩)
            case measure => (simp [intOf]; try omega)
          · have hF : firstP (fun k => decide (G ≤ valN (bel (fun _ => S) (fun _ => true) (B, C) k))) (m + 1) = (0, 3) := Prod.ext f1 f2
            rw [rch_none hF]
            clear f1 f2
            by_cases hc : G ≤ valN (bel (fun _ => S) (fun _ => true) (B, C) (m + 1))
            · have HR2 := Lib.hid (show rch (fun k => decide (G ≤ valN (bel (fun _ => S) (fun _ => true) (B, C) k))) (m + 1) = ((m : Int) + 1) by rw [rch_hit (k := m + 1) (first_yes hF (decide_eq_true hc))]; omega)
              have hci : (G : Int) ≤ ((valN (bel (fun _ => S) (fun _ => true) (B, C) (m + 1)) : Nat) : Int) := by omega
              clear hc hF
              go_wp2
              go_roundw
              case rel => first | exact ⟨m + 1, by omega, by go_num, HOL3.out, HOV3.out, by rw [HR2.out], B3⟩ | ((repeat apply Exists.intro); exact ⟨⟨m + 1, by omega, by go_num, HOL3.out, HOV3.out, by rw [HR2.out], B3⟩, rfl⟩)
              case measure => (simp [intOf]; try omega)
            · have HR2 := Lib.hid (show rch (fun k => decide (G ≤ valN (bel (fun _ => S) (fun _ => true) (B, C) k))) (m + 1) = -1 from rch_none (first_no hF (decide_eq_false hc)))
              have hcd : decide (G ≤ valN (bel (fun _ => S) (fun _ => true) (B, C) (m + 1))) = false := decide_eq_false hc
              clear hc hF
              go_wp2
              go_roundw
              case rel => first | exact ⟨m + 1, by omega, by go_num, HOL3.out, HOV3.out, by rw [HR2.out], B3⟩ | ((repeat apply Exists.intro); exact ⟨⟨m + 1, by omega, by go_num, HOL3.out, HOV3.out, by rw [HR2.out], B3⟩, rfl⟩)
              case measure => (simp [intOf]; try omega)
        · obtain rfl : m = 5 := by omega
          have HI := Lib.hid (K.out.below hbel)
          rw [rch_none HV.out]
          go_wp2_with fail
          refine (r8At_any a1 n1 c1 1 60 z1 _ HI.out hk (by omega) (by omega) (by omega)).mono ?_
          rintro e w5 ⟨al, hal, rfl, rfl⟩
          obtain ⟨al1, hal1⟩ : ∃ x, al + 1 = x := ⟨_, rfl⟩
          have eA : (al : Int) + 1 = (al1 : Int) := by omega
          go_wp2_with fail
          refine (r8At_any a1 n1 c1 2 al1 z1 _ HI.out hk (by omega) (by omega) (by omega)).mono ?_
          rintro e w5 ⟨rt, hrt, rfl, rfl⟩
          clear eA
          obtain ⟨df, hdf⟩ : ∃ d, al - rt = d := ⟨_, rfl⟩
          have eD2 : (al : Int) - (rt : Int) = (df : Int) := by omega
          have hh := hits_at hal (show rt ≤ al by omega)
          unfold hitsB at hh
          rw [hdf] at hh
          simp only [Bool.and_eq_true, decide_eq_true_eq] at hh
          obtain ⟨t1, t2, t3, t4⟩ := hh
          clear hdf
          go_wp2_with (first | (go_at_call 26; refine (hits_any _ _ _ (by omega) (by omega)).mono ?_; rintro e w' ⟨rfl, rfl⟩) | (go_at_call 27; go_in))
          go_ret
          exact ⟨by first | rfl | (simp; omega), hbel⟩
end Go.Proofs.Ytllmillhdmknpaa
