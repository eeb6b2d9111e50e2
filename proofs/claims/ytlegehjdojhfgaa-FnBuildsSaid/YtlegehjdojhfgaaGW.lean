/- The walk of the law on builds. The statement itself stands in the next text. -/
import Derived.Test.YtlegehjdojhfgaaGx
namespace Go.Proofs.Ytlegehjdojhfgaa
open Go.RowKit
set_option linter.unusedVariables false

set_option maxRecDepth 100000 in
set_option maxHeartbeats 16000000 in
theorem lawFnBuilds (a0 : Option Addr) (n0 c0 : Nat) (z0 : Nat → Int) (a1 : Option Addr) (n1 c1 : Nat) (z1 : Nat → Int) (w : World) (h0 : InBytes w a0 n0 z0) (h1 : InBytes w a1 n1 z1) :
    Calls Try.prog 3 #[.slice a0 n0 c0, .slice a1 n1 c1] w fun e w' => e = .returned (.bool true) ∧ Below w.heap.size w w' := by
  have H0 := Lib.hid h0
  have H1 := Lib.hid h1
  have hm0 : n0 ≤ maxLen := h0.2
  have hm1 : n1 ≤ maxLen := h1.2
  unfold maxLen at hm0 hm1
  clear h0 h1
  by_cases hk0 : n0 ≤ 1048576
  case neg =>
    have hl2 : (1048576 : Int) < (n0 : Int) := by omega
    go_enter Try.func3, Try.ntmps3
    go_wp2_with (go_at_call 4; go_in)
    go_ret
    exact ⟨rfl, Below.refl _ _⟩
  by_cases hk1 : n1 ≤ 1048576
  case neg =>
    have hl2 : decide ((1048576 : Int) < (n0 : Int)) = false := by simp; omega
    have hl3 : (1048576 : Int) < (n1 : Int) := by omega
    go_enter Try.func3, Try.ntmps3
    go_wp2_with (go_at_call 4; go_in)
    go_ret
    exact ⟨rfl, Below.refl _ _⟩
  have hl2 : decide ((1048576 : Int) < (n0 : Int)) = false := by simp; omega
  have hl3 : decide ((1048576 : Int) < (n1 : Int)) = false := by simp; omega
  obtain ⟨i0, hi, hz0, hz1, hz2⟩ := info_parts (show (Try.prog.info? 2).map (fun i => (i.zero, i.size, i.bytes)) = some (some (.int .i64 0), 1, 8) by kernel_rfl)
  obtain ⟨j0, hj, hy0, hy1, hy2⟩ := info_parts (show (Try.prog.info? 9).map (fun i => (i.zero, i.size, i.bytes)) = some (some (.string ⟨#[]⟩), 1, 16) by kernel_rfl)
  go_enter Try.func3, Try.ntmps3
  go_wp2_with (go_at_call 4; go_in)
  clear hl2 hl3
  refine (R8Goods_any n0 c0 a0 z0 w H0.out hk0).mono ?_
  rintro e w1 ⟨g, n, cap, X, C, L, Q, rfl, hG, hg0, hg1, hR, hb1⟩
  have HG := Lib.hid hG
  have HR := Lib.hid hR
  have hn5 := hG.n5
  have hs1 := hb1.size
  clear hG hR H0
  obtain ⟨B, hB⟩ : ∃ B, B = w1.heap.size := ⟨_, rfl⟩
  have hgB : g < B := by omega
  have hBw : w.heap.size ≤ B := by omega
  have HFN := Lib.hid (Four.none w1 B X (by omega))
  have HB := Lib.hid hB
  clear hB
  go_wp2
  go_loopw [6, 7, 8, 9, 10] (fun s6 s7 s8 s9 i wr => ∃ (k m : Nat) (gi ci gp cp gd cd gc cc : Nat) (I : Nat → Nat) (P D K : Nat → Int), k ≤ n ∧ s6 = .slice (some ⟨gi, 0, none⟩) m ci ∧ s7 = .slice (some ⟨gp, 0, none⟩) m cp ∧ s8 = .slice (some ⟨gd, 0, none⟩) k cd ∧ s9 = .slice (some ⟨gc, 0, none⟩) k cc ∧ i = .int .i64 k ∧ Chosen n k m I P D K ∧ Four wr B m m k k gi ci gp cp gd cd gc cc X I P D K ∧ Below w1.heap.size w1 wr) (fun _ _ _ _ i _ => n - (intOf i).toNat)
  case atStart => exact ⟨0, 0, _, _, _, _, _, _, _, _, fun _ => 0, fun _ => 0, fun _ => 0, fun _ => 0, Nat.zero_le _, rfl, rfl, rfl, rfl, rfl, Chosen.none _ _ _ _ _, HFN.out, (((below_new _ _).alloc (by simp) _).alloc (by simp; omega) _).alloc (by simp; omega) _⟩
  case round =>
    obtain ⟨k, m, gi, ci, gp, cp, gd, cd, gc, cc, I, P, D, K, hk, rfl, rfl, rfl, rfl, rfl, hC, hF, hbel⟩ := hrel
    have HC := Lib.hid hC
    have F0 := Lib.hid hF
    have hmk := hC.le
    clear hC hF HFN
    have h1b := hb1.trans (hbel.mono hs1)
    by_cases hlt : k < n
    · have hlti : (k : Int) < (n : Int) := by omega
      have hki : (0 : Int) ≤ (k : Int) := by omega
      go_wp2_with fail
      refine (r8At_i a1 n1 c1 2 _ z1 _ (H1.out.below h1b) hk1 (by omega) (by omega) (by omega) (by omega)).mono ?_
      rintro e w' ⟨v0, hv0, rfl, rfl⟩
      obtain hv | hv : (v0 : Int) = 0 ∨ (v0 : Int) = 1 := by omega
      · rw [hv]
        clear hv hv0
        go_wp2_with fail
        refine (r8At_i a1 n1 c1 7 _ z1 _ (H1.out.below h1b) hk1 (by omega) (by omega) (by omega) (by omega)).mono ?_
        rintro e w' ⟨v2, hv2, rfl, rfl⟩
        have hsz2 := h1b.size
        have hbb2 := F0.out.d.lt
        obtain ⟨hbb2, _⟩ := hbb2
        have hB2 : B ≤ wr.heap.size := by omega
        go_wp2_with (at_builtin; refine wpList_append_lies _ rfl _ _ 27 rfl B 2 i0 (.int .i64 0) 1 8 Try.underlying27 hi hz0 hz1 hz2 rfl (by decide) _ _ _ rfl (F0.out.d.new _) ⟨wr.heap.size, 0, none⟩ 1 1 [.int .i64 (v2 : Int)] rfl rfl (one_new _ _ _) ?d2 (by decide) ?d3 ?d4 ?d5 _ rfl ?_)
        case d2 => intro u hu; simp at hu; subst hu; rfl
        case d3 => unfold maxLen; omega
        case d4 => omega
        case d5 => simp; omega
        intro g5 k5 w5 hown5 hgrow5 hat5 _
        have F5 := Lib.hid (F0.out.pushD (v2 : Int) hown5 hgrow5 hat5)
        have b5 := below_push h1b (g := gd) hgrow5 (Nat.le_refl _) (by omega)
        have bl5 := below_push hbel (g := gd) hgrow5 (Nat.le_refl _) (by have := HB.out; omega)
        clear hown5 hgrow5 hat5
        go_wp2_with fail
        refine (r8At_i a1 n1 c1 60 _ z1 _ (H1.out.below b5) hk1 (by omega) (by omega) (by omega) (by omega)).mono ?_
        rintro e w' ⟨v3, hv3, rfl, rfl⟩
        have hsz5 := b5.size
        have hbb5 := F5.out.c.lt
        obtain ⟨hbb5, _⟩ := hbb5
        have hB5 : B ≤ w5.heap.size := by omega
        go_wp2_with (at_builtin; refine wpList_append_lies _ rfl _ _ 27 rfl B 2 i0 (.int .i64 0) 1 8 Try.underlying27 hi hz0 hz1 hz2 rfl (by decide) _ _ _ rfl (F5.out.c.new _) ⟨w5.heap.size, 0, none⟩ 1 1 [.int .i64 (v3 : Int)] rfl rfl (one_new _ _ _) ?e2 (by decide) ?e3 ?e4 ?e5 _ rfl ?_)
        case e2 => intro u hu; simp at hu; subst hu; rfl
        case e3 => unfold maxLen; omega
        case e4 => omega
        case e5 => simp; omega
        intro g6 k6 w6 hown6 hgrow6 hat6 _
        have F6 := Lib.hid (F5.out.pushC (v3 : Int) hown6 hgrow6 hat6)
        have bl6 := below_push bl5 (g := gc) hgrow6 (Nat.le_refl _) (by have := HB.out; omega)
        clear hown6 hgrow6 hat6 F5 F0
        go_wp2
        go_roundw
        case rel => exact ⟨k + 1, m, gi, ci, gp, cp, g5, k5, g6, k6, I, P, upd D k (v2 : Int), upd K k (v3 : Int), by omega, rfl, rfl, rfl, rfl, by go_num, HC.out.leave hv2 hv3, F6.out, bl6⟩
        case measure => simp [intOf]; omega
      · rw [hv]
        clear hv hv0
        obtain ⟨d0, _, _, _⟩ := HR.out k hlt
        rw [← bcell hbel _ _ hg1] at d0
        simp only [Nat.zero_add] at d0
        have hszr := hbel.size
        have hbbr := F0.out.i.lt
        obtain ⟨hbbr, hbbs⟩ := hbbr
        have hBr : B ≤ wr.heap.size := by omega
        go_wp2_with (at_builtin; refine wpList_append_lies _ rfl _ _ 26 rfl B 9 j0 (.string ⟨#[]⟩) 1 16 Try.underlying26 hj hy0 hy1 hy2 rfl (by decide) _ _ _ rfl (F0.out.i.new _) ⟨wr.heap.size, 0, none⟩ 1 1 [.string (nm (X k))] rfl rfl (one_new _ _ _) ?f2 (by decide) ?f3 ?f4 ?f5 _ rfl ?_)
        case f2 => intro u hu; simp at hu; subst hu; rfl
        case f3 => unfold maxLen; omega
        case f4 => omega
        case f5 => simp; omega
        intro g3 k3 w3 hown3 hgrow3 hat3 _
        have F3 := Lib.hid (F0.out.pushI k hown3 hgrow3 hat3)
        have b3 := below_push h1b (g := gi) hgrow3 (Nat.le_refl _) (by omega)
        have bl3 := below_push hbel (g := gi) hgrow3 (Nat.le_refl _) (by have := HB.out; omega)
        clear hown3 hgrow3 hat3 F0 d0
        go_wp2_with fail
        refine (r8At_i a1 n1 c1 6 _ z1 _ (H1.out.below b3) hk1 (by omega) (by omega) (by omega) (by omega)).mono ?_
        rintro e w' ⟨v1, hv1, rfl, rfl⟩
        have hsz3 := b3.size
        have hbb3 := F3.out.p.lt
        obtain ⟨hbb3, _⟩ := hbb3
        have hB3 : B ≤ w3.heap.size := by omega
        go_wp2_with (at_builtin; refine wpList_append_lies _ rfl _ _ 27 rfl B 2 i0 (.int .i64 0) 1 8 Try.underlying27 hi hz0 hz1 hz2 rfl (by decide) _ _ _ rfl (F3.out.p.new _) ⟨w3.heap.size, 0, none⟩ 1 1 [.int .i64 (1 + (v1 : Int))] rfl rfl (one_new _ _ _) ?g2 (by decide) ?g3 ?g4 ?g5 _ rfl ?_)
        case g2 => intro u hu; simp at hu; subst hu; rfl
        case g3 => unfold maxLen; omega
        case g4 => omega
        case g5 => simp; omega
        intro g4 k4 w4 hown4 hgrow4 hat4 _
        have F4 := Lib.hid (F3.out.pushP (1 + (v1 : Int)) hown4 hgrow4 hat4)
        have b4 := below_push b3 (g := gp) hgrow4 (Nat.le_refl _) (by omega)
        have bl4 := below_push bl3 (g := gp) hgrow4 (Nat.le_refl _) (by have := HB.out; omega)
        clear hown4 hgrow4 hat4 F3
        go_wp2_with fail
        refine (r8At_i a1 n1 c1 7 _ z1 _ (H1.out.below b4) hk1 (by omega) (by omega) (by omega) (by omega)).mono ?_
        rintro e w' ⟨v2, hv2, rfl, rfl⟩
        have hsz2 := b4.size
        have hbb2 := F4.out.d.lt
        obtain ⟨hbb2, _⟩ := hbb2
        have hB2 : B ≤ w4.heap.size := by omega
        go_wp2_with (at_builtin; refine wpList_append_lies _ rfl _ _ 27 rfl B 2 i0 (.int .i64 0) 1 8 Try.underlying27 hi hz0 hz1 hz2 rfl (by decide) _ _ _ rfl (F4.out.d.new _) ⟨w4.heap.size, 0, none⟩ 1 1 [.int .i64 (v2 : Int)] rfl rfl (one_new _ _ _) ?d2 (by decide) ?d3 ?d4 ?d5 _ rfl ?_)
        case d2 => intro u hu; simp at hu; subst hu; rfl
        case d3 => unfold maxLen; omega
        case d4 => omega
        case d5 => simp; omega
        intro g5 k5 w5 hown5 hgrow5 hat5 _
        have F5 := Lib.hid (F4.out.pushD (v2 : Int) hown5 hgrow5 hat5)
        have b5 := below_push b4 (g := gd) hgrow5 (Nat.le_refl _) (by omega)
        have bl5 := below_push bl4 (g := gd) hgrow5 (Nat.le_refl _) (by have := HB.out; omega)
        clear hown5 hgrow5 hat5
        go_wp2_with fail
        refine (r8At_i a1 n1 c1 60 _ z1 _ (H1.out.below b5) hk1 (by omega) (by omega) (by omega) (by omega)).mono ?_
        rintro e w' ⟨v3, hv3, rfl, rfl⟩
        have hsz5 := b5.size
        have hbb5 := F5.out.c.lt
        obtain ⟨hbb5, _⟩ := hbb5
        have hB5 : B ≤ w5.heap.size := by omega
        go_wp2_with (at_builtin; refine wpList_append_lies _ rfl _ _ 27 rfl B 2 i0 (.int .i64 0) 1 8 Try.underlying27 hi hz0 hz1 hz2 rfl (by decide) _ _ _ rfl (F5.out.c.new _) ⟨w5.heap.size, 0, none⟩ 1 1 [.int .i64 (v3 : Int)] rfl rfl (one_new _ _ _) ?e2 (by decide) ?e3 ?e4 ?e5 _ rfl ?_)
        case e2 => intro u hu; simp at hu; subst hu; rfl
        case e3 => unfold maxLen; omega
        case e4 => omega
        case e5 => simp; omega
        intro g6 k6 w6 hown6 hgrow6 hat6 _
        have F6 := Lib.hid (F5.out.pushC (v3 : Int) hown6 hgrow6 hat6)
        have bl6 := below_push bl5 (g := gc) hgrow6 (Nat.le_refl _) (by have := HB.out; omega)
        clear hown6 hgrow6 hat6 F5 F4
        go_wp2
        go_roundw
        case rel => exact ⟨k + 1, m + 1, g3, k3, g4, k4, g5, k5, g6, k6, upd I m k, upd P m (1 + (v1 : Int)), upd D k (v2 : Int), upd K k (v3 : Int), by omega, rfl, rfl, rfl, rfl, by go_num, HC.out.take hlt hv1 hv2 hv3, F6.out, bl6⟩
        case measure => simp [intOf]; omega
    · obtain rfl : n = k := by omega
      obtain ⟨rI, rP, rD, rK, li, lp, ld, lc⟩ := F0.out.reads
      have HI := Lib.hid rI
      have HP := Lib.hid rP
      have HD := Lib.hid rD
      have HK := Lib.hid rK
      have HRa := Lib.hid (HR.out.below hbel hg1)
      have lg : g < wr.heap.size := Nat.lt_of_lt_of_le hg1 hbel.size
      clear rI rP rD rK HR F0 hi hz0 hz1 hz2 hj hy0 hy1 hy2 H1 hlt hbel
      obtain ⟨wa, rfl⟩ : ∃ wa, wa = wr := ⟨_, rfl⟩
      by_cases hm0 : m = 0
      · subst hm0
        go_wp2_with fail
        refine (canBuild_none g n cap ci cp _ _ X C L Q wa HG.out lg HRa.out).mono ?_
        rintro e w2 ⟨rfl, hb2⟩
        go_wp2_with fail
        refine (runOut_ok g n cap gd cd X C L Q D w2 HG.out (Nat.lt_of_lt_of_le lg hb2.size) (HRa.out.below hb2 lg) (Nat.lt_of_lt_of_le ld hb2.size) (HD.out.below hb2 ld) HC.out.d).mono ?_
        rintro e w3 ⟨hcase, hb3⟩
        have B3 := hb2.trans (hb3.mono hb2.size)
        clear hb3
        rcases hcase with ⟨rfl, hz⟩ | ⟨f, days, rfl, hf⟩
        · have HZ := Lib.hid hz
          clear hz
          go_wp2
          go_loopw [19, 20] (fun u i wr => ∃ k : Nat, k ≤ n ∧ i = .int .i64 k ∧ u = .bool false ∧ Below wa.heap.size wa wr) (fun _ i _ => n - (intOf i).toNat)
          case atStart => exact ⟨0, Nat.zero_le _, rfl, rfl, B3⟩
          case round =>
            obtain ⟨k, hk, rfl, rfl, hbel⟩ := hrel
            clear B3
            by_cases hlt : k < n
            · have hlti : (k : Int) < (n : Int) := by omega
              have hki : (0 : Int) ≤ (k : Int) := by omega
              have e0 := (bcell hbel _ _ ld).trans (HD.out k hlt)
              rw [HZ.out k hlt] at e0
              go_wp2
              go_roundw
              case rel => exact ⟨k + 1, by omega, by go_num, rfl, hbel⟩
              case measure => simp [intOf]; omega
            · obtain rfl : n = k := by omega
              go_wp2_with fail
              refine (countGap_ok g n cap gc cc X C L Q K wr HG.out (Nat.lt_of_lt_of_le lg hbel.size) (HRa.out.below hbel lg) (Nat.lt_of_lt_of_le lc hbel.size) (HK.out.below hbel lc) HC.out.c).mono ?_
              rintro e w6 ⟨gg, cg, rfl, hgr, hgl, hb6⟩
              have B6 := hbel.trans (hb6.mono hbel.size)
              have HGR := Lib.hid hgr
              clear hgr hb6
              go_wp2
              go_loopw [24, 25] (fun s i wr => ∃ k : Nat, k ≤ n ∧ i = .int .i64 k ∧ s = .int .i64 (gapSum K C Q k) ∧ Below w6.heap.size w6 wr) (fun _ i _ => n - (intOf i).toNat)
              case atStart => exact ⟨0, Nat.zero_le _, rfl, rfl, Below.refl _ _⟩
              case round =>
                obtain ⟨k, hk, rfl, rfl, hbel⟩ := hrel
                have hbw := B6.trans (hbel.mono B6.size)
                by_cases hlt : k < n
                · have hlti : (k : Int) < (n : Int) := by omega
                  have hki : (0 : Int) ≤ (k : Int) := by omega
                  obtain ⟨_, d1, _, d3⟩ := HRa.out k hlt
                  rw [← bcell hbw _ _ lg] at d1 d3
                  simp only [Nat.zero_add] at d1 d3
                  have e0 : wr.cell? ⟨gg, k, none⟩ = some (.int .i64 (K k - C k)) := (bcell hbel _ _ hgl).trans (HGR.out k hlt)
                  have e1 := (bcell hbw _ _ lc).trans (HK.out k hlt)
                  obtain ⟨n0, n1⟩ := HC.out.c k hlt
                  obtain ⟨b0, b1⟩ := HG.out.c k hlt
                  obtain ⟨q0, q1⟩ := HG.out.q k hlt
                  obtain ⟨s0, s1⟩ := gapSum_b HG.out HC.out.c k hk
                  obtain ⟨p0, p1⟩ := gap_prod (x := K k - C k) (by omega) (by omega) q0 q1
                  have t1 : IntKind.i64.wrap (K k - C k) = K k - C k := IntWalk.i64_in _ (by omega)
                  have t2 : IntKind.i64.wrap ((K k - C k) * Q k) = (K k - C k) * Q k := IntWalk.i64_in _ (by omega)
                  have t3 : IntKind.i64.wrap (gapSum K C Q k + (K k - C k) * Q k) = gapSum K C Q k + (K k - C k) * Q k := IntWalk.i64_in _ (by omega)
                  have HS := Lib.hid (show gapSum K C Q (k + 1) = gapSum K C Q k + (K k - C k) * Q k from rfl)
                  go_wp2
                  go_big_quiet (fail)
                  go_wp2
                  go_big_quiet (fail)
                  go_wp2
                  go_roundw
                  case rel => exact ⟨k + 1, by omega, by go_num, by rw [HS.out], below_drewN hbel _⟩
                  case measure => simp [intOf]; omega
                · obtain rfl : n = k := by omega
                  go_wp2_with fail
                  refine (ValidGoods_ok g n cap X C L Q wr HG.out (Nat.lt_of_lt_of_le lg hbw.size) (HRa.out.below hbw lg)).mono ?_
                  rintro e w7 ⟨rfl, hb7⟩
                  go_wp2
                  go_ret
                  exact ⟨rfl, h1b.trans ((hbw.trans (hb7.mono hbw.size)).mono h1b.size)⟩
        · have HF := Lib.hid hf
          have hfn := hf.lt
          have hd0 := hf.b0
          have hdz := hf.nz
          have hdc := (HG.out.c f hfn)
          obtain ⟨hc0, hc1⟩ := hdc
          have hout := hf.out hc0
          have hd1 : days ≤ 39 := by
            have h1 := hf.le f hfn hdz
            have h2 := Int.mul_le_mul_of_nonneg_left (show (1 : Int) ≤ D f by omega) hd0
            omega
          clear hf
          go_wp2
          go_loopw [19, 20] (fun u i wr => ∃ (k : Nat) (b : Bool), k ≤ n ∧ i = .int .i64 k ∧ u = .bool b ∧ (b = true ∨ k ≤ f) ∧ Below wa.heap.size wa wr) (fun _ i _ => n - (intOf i).toNat)
          case atStart => exact ⟨0, false, Nat.zero_le _, rfl, rfl, .inr (Nat.zero_le _), B3⟩
          case round =>
            obtain ⟨k, b, hk, rfl, rfl, hu, hbel⟩ := hrel
            have HU := Lib.hid hu
            clear hu B3
            by_cases hlt : k < n
            · have hlti : (k : Int) < (n : Int) := by omega
              have hki : (0 : Int) ≤ (k : Int) := by omega
              have e0 := (bcell hbel _ _ ld).trans (HD.out k hlt)
              by_cases hDk : D k = 0
              · rw [hDk] at e0
                have HU2 := Lib.hid (show b = true ∨ k + 1 ≤ f from HU.out.imp id fun h => by
                  have : k ≠ f := fun e => by rw [e] at hDk; omega
                  omega)
                clear hDk HU
                go_wp2
                go_roundw
                case rel => exact ⟨k + 1, b, by omega, by go_num, rfl, HU2.out, hbel⟩
                case measure => simp [intOf]; omega
              · obtain ⟨_, d1, _, _⟩ := HRa.out k hlt
                rw [← bcell hbel _ _ lg] at d1
                simp only [Nat.zero_add] at d1
                obtain ⟨x0, x1⟩ := HC.out.d k hlt
                have hle := HF.out.le k hlt (by omega)
                obtain ⟨m0, m3⟩ := pieces_b (x := days + 1) (p := D k) (by omega) (by omega) x0 x1
                obtain ⟨m4, m5⟩ := pieces_b (x := days) (p := D k) (by omega) (by omega) x0 x1
                have t1 : IntKind.i64.wrap (days + 1) = days + 1 := IntWalk.i64_in _ (by omega)
                have t2 : IntKind.i64.wrap ((days + 1) * D k) = (days + 1) * D k := IntWalk.i64_in _ (by omega)
                have t3 : IntKind.i64.wrap (days * D k) = days * D k := IntWalk.i64_in _ (by omega)
                have hd3 : decide (C k < days * D k) = false := decide_eq_false (by omega)
                have hd4 : (D k == 0) = false := by simpa using hDk
                clear hle hDk
                by_cases hkf : k = f
                · subst hkf
                  have hd5 : decide ((days + 1) * D k ≤ C k) = false := decide_eq_false (by omega)
                  clear hout
                  go_wp2
                  go_big_quiet (fail)
                  go_wp2
                  go_roundw
                  case rel => exact ⟨k + 1, true, by omega, by go_num, rfl, .inl rfl, below_drewN hbel _⟩
                  case measure => simp [intOf]; omega
                · have hd5 : ((k : Int) == (f : Int)) = false := by simp; omega
                  have hd6 : (k == f) = false := by simpa using hkf
                  clear hkf hout
                  go_wp2
                  go_big_quiet (fail)
                  go_wp2
                  go_roundw
                  case rel => exact ⟨k + 1, true, by omega, by go_num, rfl, .inl rfl, below_drewN hbel _⟩
                  case measure => simp [intOf]; omega
            · obtain rfl : n = k := by omega
              have hbt : b = true := HU.out.resolve_right (by omega)
              subst hbt
              clear HU
              go_wp2_with fail
              refine (countGap_ok g n cap gc cc X C L Q K wr HG.out (Nat.lt_of_lt_of_le lg hbel.size) (HRa.out.below hbel lg) (Nat.lt_of_lt_of_le lc hbel.size) (HK.out.below hbel lc) HC.out.c).mono ?_
              rintro e w6 ⟨gg, cg, rfl, hgr, hgl, hb6⟩
              have B6 := hbel.trans (hb6.mono hbel.size)
              have HGR := Lib.hid hgr
              clear hgr hb6
              have cf : w6.cell? ⟨gd, f, none⟩ = some (.int .i64 (D f)) := (bcell B6 _ _ ld).trans (HD.out f hfn)
              have hf0 : decide ((f : Int) < 0) = false := by simp
              have hf1 : decide (n ≤ f) = false := by simp; omega
              have hf2 : (D f == 0) = false := by simp; omega
              have hf3 : (f : Int) < (n : Int) := by omega
              have hf4 : (0 : Int) ≤ (f : Int) := by omega
              go_wp2
              clear cf hf0 hf1 hf2 hf3 hf4
              go_loopw [24, 25] (fun s i wr => ∃ k : Nat, k ≤ n ∧ i = .int .i64 k ∧ s = .int .i64 (gapSum K C Q k) ∧ Below w6.heap.size w6 wr) (fun _ i _ => n - (intOf i).toNat)
              case atStart => exact ⟨0, Nat.zero_le _, rfl, rfl, Below.refl _ _⟩
              case round =>
                obtain ⟨k, hk, rfl, rfl, hbel⟩ := hrel
                have hbw := B6.trans (hbel.mono B6.size)
                by_cases hlt : k < n
                · have hlti : (k : Int) < (n : Int) := by omega
                  have hki : (0 : Int) ≤ (k : Int) := by omega
                  obtain ⟨_, d1, _, d3⟩ := HRa.out k hlt
                  rw [← bcell hbw _ _ lg] at d1 d3
                  simp only [Nat.zero_add] at d1 d3
                  have e0 : wr.cell? ⟨gg, k, none⟩ = some (.int .i64 (K k - C k)) := (bcell hbel _ _ hgl).trans (HGR.out k hlt)
                  have e1 := (bcell hbw _ _ lc).trans (HK.out k hlt)
                  obtain ⟨n0, n1⟩ := HC.out.c k hlt
                  obtain ⟨b0, b1⟩ := HG.out.c k hlt
                  obtain ⟨q0, q1⟩ := HG.out.q k hlt
                  obtain ⟨s0, s1⟩ := gapSum_b HG.out HC.out.c k hk
                  obtain ⟨p0, p1⟩ := gap_prod (x := K k - C k) (by omega) (by omega) q0 q1
                  have t1 : IntKind.i64.wrap (K k - C k) = K k - C k := IntWalk.i64_in _ (by omega)
                  have t2 : IntKind.i64.wrap ((K k - C k) * Q k) = (K k - C k) * Q k := IntWalk.i64_in _ (by omega)
                  have t3 : IntKind.i64.wrap (gapSum K C Q k + (K k - C k) * Q k) = gapSum K C Q k + (K k - C k) * Q k := IntWalk.i64_in _ (by omega)
                  have HS := Lib.hid (show gapSum K C Q (k + 1) = gapSum K C Q k + (K k - C k) * Q k from rfl)
                  go_wp2
                  go_big_quiet (fail)
                  go_wp2
                  go_big_quiet (fail)
                  go_wp2
                  go_roundw
                  case rel => exact ⟨k + 1, by omega, by go_num, by rw [HS.out], below_drewN hbel _⟩
                  case measure => simp [intOf]; omega
                · obtain rfl : n = k := by omega
                  go_wp2_with fail
                  refine (ValidGoods_ok g n cap X C L Q wr HG.out (Nat.lt_of_lt_of_le lg hbw.size) (HRa.out.below hbw lg)).mono ?_
                  rintro e w7 ⟨rfl, hb7⟩
                  go_wp2
                  go_ret
                  exact ⟨rfl, h1b.trans ((hbw.trans (hb7.mono hbw.size)).mono h1b.size)⟩
      · have hm1 : 0 < m := by omega
        have hm2 : (0 : Int) < (m : Int) := by omega
        clear hm0
        go_wp2_with fail
        refine (canBuild_ok g n cap gi ci gp cp m X I C L Q P wa HG.out lg HRa.out hm1 (by omega) li lp HI.out HP.out HC.out.pk).mono ?_
        rintro e w2 ⟨v, rfl, hM, hb2⟩
        have HM := Lib.hid hM
        obtain ⟨v0, v1⟩ := And.intro hM.b0 hM.b1
        clear hM
        go_wp2
        go_loopw [13, 14] (fun st i wr => ∃ (q : Nat) (b : Bool), q ≤ m ∧ i = .int .i64 q ∧ st = .bool b ∧ Stop b q v I P C ∧ Below wa.heap.size wa wr) (fun _ i _ => m - (intOf i).toNat)
        case atStart => exact ⟨0, false, Nat.zero_le _, rfl, rfl, .inr (fun j hj => by omega), hb2⟩
        case round =>
          obtain ⟨q, b, hq, rfl, rfl, hS, hbel⟩ := hrel
          have HS := Lib.hid hS
          clear hS
          by_cases hlt : q < m
          · have hlti : (q : Int) < (m : Int) := by omega
            have hki : (0 : Int) ≤ (q : Int) := by omega
            have hIq := HC.out.pk.lt q hlt
            obtain ⟨p0, p1⟩ := HC.out.pk.pc q hlt
            go_wp2
            go_loopw [13, 15] (fun st i wr => ∃ (r : Nat) (b : Bool), r ≤ n ∧ i = .int .i64 r ∧ st = .bool b ∧ Stop2 b q r v I P C ∧ Below wa.heap.size wa wr) (fun _ i _ => n - (intOf i).toNat)
            case atStart => exact ⟨0, b, Nat.zero_le _, rfl, rfl, HS.out.start, hbel⟩
            case round =>
              clear HS hbel
              obtain ⟨r, b, hr, rfl, rfl, hS, hbel⟩ := hrel
              have HS := Lib.hid hS
              clear hS
              by_cases hlt2 : r < n
              · have hlti2 : (r : Int) < (n : Int) := by omega
                have hki2 : (0 : Int) ≤ (r : Int) := by omega
                obtain ⟨d0, d1, _, _⟩ := HRa.out r hlt2
                rw [← bcell hbel _ _ lg] at d0 d1
                simp only [Nat.zero_add] at d0 d1
                have e0 : wr.cell? ⟨gi, q, none⟩ = some (.string (nm (X (I q)))) := (bcell hbel _ _ li).trans (HI.out q hlt)
                have e1 := (bcell hbel _ _ lp).trans (HP.out q hlt)
                by_cases he : r = I q
                · subst he
                  have hle := HM.out.le q hlt
                  obtain ⟨m0, m3⟩ := pieces_b (x := v + 1) (p := P q) (by omega) (by omega) (by omega) (by omega)
                  obtain ⟨m4, m5⟩ := pieces_b (x := v) (p := P q) (by omega) (by omega) (by omega) (by omega)
                  have t1 : IntKind.i64.wrap (v + 1) = v + 1 := IntWalk.i64_in _ (by omega)
                  have t2 : IntKind.i64.wrap ((v + 1) * P q) = (v + 1) * P q := IntWalk.i64_in _ (by omega)
                  have t3 : IntKind.i64.wrap (v * P q) = v * P q := IntWalk.i64_in _ (by omega)
                  have hd1 : decide (C (I q) < v * P q) = false := decide_eq_false (by omega)
                  have hd2 : decide (v < 0) = false := decide_eq_false (by omega)
                  clear hle
                  cases b with
                  | true =>
                    clear HS
                    go_wp2
                    go_big_quiet (fail)
                    go_wp2
                    go_big_quiet (fail)
                    go_wp2
                    go_big_quiet (fail)
                    go_wp2
                    go_roundw
                    case rel => exact ⟨I q + 1, true, by omega, by go_num, rfl, Stop2.yes, below_drewN hbel _⟩
                    case measure => simp [intOf]; omega
                  | false =>
                    by_cases hx : C (I q) < (v + 1) * P q
                    · have hd0 : decide (C (I q) < (v + 1) * P q) = true := decide_eq_true hx
                      clear HS hx
                      go_wp2
                      go_big_quiet (fail)
                      go_wp2
                      go_big_quiet (fail)
                      go_wp2
                      go_big_quiet (fail)
                      go_wp2
                      go_roundw
                      case rel => exact ⟨I q + 1, true, by omega, by go_num, rfl, Stop2.yes, below_drewN hbel _⟩
                      case measure => simp [intOf]; omega
                    · have hd0 : decide (C (I q) < (v + 1) * P q) = false := decide_eq_false hx
                      have HS2 := Lib.hid (HS.out.no (by omega))
                      clear HS hx
                      go_wp2
                      go_big_quiet (fail)
                      go_wp2
                      go_big_quiet (fail)
                      go_wp2
                      go_big_quiet (fail)
                      go_wp2
                      go_roundw
                      case rel => exact ⟨I q + 1, false, by omega, by go_num, rfl, HS2.out, below_drewN hbel _⟩
                      case measure => simp [intOf]; omega
                · have hne := nm_apart HG.out hlt2 hIq he
                  have HS2 := Lib.hid (HS.out.skip he)
                  clear HS e1 d1
                  go_wp2
                  go_big_quiet (fail)
                  go_wp2
                  go_roundw
                  case rel => exact ⟨r + 1, b, by omega, by go_num, rfl, HS2.out, below_drewN hbel _⟩
                  case measure => simp [intOf]; omega
              · obtain rfl : n = r := by omega
                have HS2 := Lib.hid (HS.out.done hIq)
                clear HS
                go_wp2
                go_roundw
                case rel => exact ⟨q + 1, b, by omega, by go_num, rfl, HS2.out, hbel⟩
                case measure => simp [intOf]; omega
          · obtain rfl : m = q := by omega
            have hbt := HS.out.seen HM.out
            subst hbt
            clear HS hb2
            go_wp2_with fail
            refine (runOut_ok g n cap gd cd X C L Q D wr HG.out (Nat.lt_of_lt_of_le lg hbel.size) (HRa.out.below hbel lg) (Nat.lt_of_lt_of_le ld hbel.size) (HD.out.below hbel ld) HC.out.d).mono ?_
            rintro e w3 ⟨hcase, hb3⟩
            have B3 := hbel.trans (hb3.mono hbel.size)
            clear hb3
            rcases hcase with ⟨rfl, hz⟩ | ⟨f, days, rfl, hf⟩
            · have HZ := Lib.hid hz
              clear hz
              go_wp2
              go_loopw [19, 20] (fun u i wr => ∃ k : Nat, k ≤ n ∧ i = .int .i64 k ∧ u = .bool false ∧ Below wa.heap.size wa wr) (fun _ i _ => n - (intOf i).toNat)
              case atStart => exact ⟨0, Nat.zero_le _, rfl, rfl, B3⟩
              case round =>
                obtain ⟨k, hk, rfl, rfl, hbel⟩ := hrel
                clear B3
                by_cases hlt : k < n
                · have hlti : (k : Int) < (n : Int) := by omega
                  have hki : (0 : Int) ≤ (k : Int) := by omega
                  have e0 := (bcell hbel _ _ ld).trans (HD.out k hlt)
                  rw [HZ.out k hlt] at e0
                  go_wp2
                  go_roundw
                  case rel => exact ⟨k + 1, by omega, by go_num, rfl, hbel⟩
                  case measure => simp [intOf]; omega
                · obtain rfl : n = k := by omega
                  go_wp2_with fail
                  refine (countGap_ok g n cap gc cc X C L Q K wr HG.out (Nat.lt_of_lt_of_le lg hbel.size) (HRa.out.below hbel lg) (Nat.lt_of_lt_of_le lc hbel.size) (HK.out.below hbel lc) HC.out.c).mono ?_
                  rintro e w6 ⟨gg, cg, rfl, hgr, hgl, hb6⟩
                  have B6 := hbel.trans (hb6.mono hbel.size)
                  have HGR := Lib.hid hgr
                  clear hgr hb6
                  go_wp2
                  go_loopw [24, 25] (fun s i wr => ∃ k : Nat, k ≤ n ∧ i = .int .i64 k ∧ s = .int .i64 (gapSum K C Q k) ∧ Below w6.heap.size w6 wr) (fun _ i _ => n - (intOf i).toNat)
                  case atStart => exact ⟨0, Nat.zero_le _, rfl, rfl, Below.refl _ _⟩
                  case round =>
                    obtain ⟨k, hk, rfl, rfl, hbel⟩ := hrel
                    have hbw := B6.trans (hbel.mono B6.size)
                    by_cases hlt : k < n
                    · have hlti : (k : Int) < (n : Int) := by omega
                      have hki : (0 : Int) ≤ (k : Int) := by omega
                      obtain ⟨_, d1, _, d3⟩ := HRa.out k hlt
                      rw [← bcell hbw _ _ lg] at d1 d3
                      simp only [Nat.zero_add] at d1 d3
                      have e0 : wr.cell? ⟨gg, k, none⟩ = some (.int .i64 (K k - C k)) := (bcell hbel _ _ hgl).trans (HGR.out k hlt)
                      have e1 := (bcell hbw _ _ lc).trans (HK.out k hlt)
                      obtain ⟨n0, n1⟩ := HC.out.c k hlt
                      obtain ⟨b0, b1⟩ := HG.out.c k hlt
                      obtain ⟨q0, q1⟩ := HG.out.q k hlt
                      obtain ⟨s0, s1⟩ := gapSum_b HG.out HC.out.c k hk
                      obtain ⟨p0, p1⟩ := gap_prod (x := K k - C k) (by omega) (by omega) q0 q1
                      have t1 : IntKind.i64.wrap (K k - C k) = K k - C k := IntWalk.i64_in _ (by omega)
                      have t2 : IntKind.i64.wrap ((K k - C k) * Q k) = (K k - C k) * Q k := IntWalk.i64_in _ (by omega)
                      have t3 : IntKind.i64.wrap (gapSum K C Q k + (K k - C k) * Q k) = gapSum K C Q k + (K k - C k) * Q k := IntWalk.i64_in _ (by omega)
                      have HS := Lib.hid (show gapSum K C Q (k + 1) = gapSum K C Q k + (K k - C k) * Q k from rfl)
                      go_wp2
                      go_big_quiet (fail)
                      go_wp2
                      go_big_quiet (fail)
                      go_wp2
                      go_roundw
                      case rel => exact ⟨k + 1, by omega, by go_num, by rw [HS.out], below_drewN hbel _⟩
                      case measure => simp [intOf]; omega
                    · obtain rfl : n = k := by omega
                      go_wp2_with fail
                      refine (ValidGoods_ok g n cap X C L Q wr HG.out (Nat.lt_of_lt_of_le lg hbw.size) (HRa.out.below hbw lg)).mono ?_
                      rintro e w7 ⟨rfl, hb7⟩
                      go_wp2
                      go_ret
                      exact ⟨rfl, h1b.trans ((hbw.trans (hb7.mono hbw.size)).mono h1b.size)⟩
            · have HF := Lib.hid hf
              have hfn := hf.lt
              have hd0 := hf.b0
              have hdz := hf.nz
              have hdc := (HG.out.c f hfn)
              obtain ⟨hc0, hc1⟩ := hdc
              have hout := hf.out hc0
              have hd1 : days ≤ 39 := by
                have h1 := hf.le f hfn hdz
                have h2 := Int.mul_le_mul_of_nonneg_left (show (1 : Int) ≤ D f by omega) hd0
                omega
              clear hf
              go_wp2
              go_loopw [19, 20] (fun u i wr => ∃ (k : Nat) (b : Bool), k ≤ n ∧ i = .int .i64 k ∧ u = .bool b ∧ (b = true ∨ k ≤ f) ∧ Below wa.heap.size wa wr) (fun _ i _ => n - (intOf i).toNat)
              case atStart => exact ⟨0, false, Nat.zero_le _, rfl, rfl, .inr (Nat.zero_le _), B3⟩
              case round =>
                obtain ⟨k, b, hk, rfl, rfl, hu, hbel⟩ := hrel
                have HU := Lib.hid hu
                clear hu B3
                by_cases hlt : k < n
                · have hlti : (k : Int) < (n : Int) := by omega
                  have hki : (0 : Int) ≤ (k : Int) := by omega
                  have e0 := (bcell hbel _ _ ld).trans (HD.out k hlt)
                  by_cases hDk : D k = 0
                  · rw [hDk] at e0
                    have HU2 := Lib.hid (show b = true ∨ k + 1 ≤ f from HU.out.imp id fun h => by
                      have : k ≠ f := fun e => by rw [e] at hDk; omega
                      omega)
                    clear hDk HU
                    go_wp2
                    go_roundw
                    case rel => exact ⟨k + 1, b, by omega, by go_num, rfl, HU2.out, hbel⟩
                    case measure => simp [intOf]; omega
                  · obtain ⟨_, d1, _, _⟩ := HRa.out k hlt
                    rw [← bcell hbel _ _ lg] at d1
                    simp only [Nat.zero_add] at d1
                    obtain ⟨x0, x1⟩ := HC.out.d k hlt
                    have hle := HF.out.le k hlt (by omega)
                    obtain ⟨m0, m3⟩ := pieces_b (x := days + 1) (p := D k) (by omega) (by omega) x0 x1
                    obtain ⟨m4, m5⟩ := pieces_b (x := days) (p := D k) (by omega) (by omega) x0 x1
                    have t1 : IntKind.i64.wrap (days + 1) = days + 1 := IntWalk.i64_in _ (by omega)
                    have t2 : IntKind.i64.wrap ((days + 1) * D k) = (days + 1) * D k := IntWalk.i64_in _ (by omega)
                    have t3 : IntKind.i64.wrap (days * D k) = days * D k := IntWalk.i64_in _ (by omega)
                    have hd3 : decide (C k < days * D k) = false := decide_eq_false (by omega)
                    have hd4 : (D k == 0) = false := by simpa using hDk
                    clear hle hDk
                    by_cases hkf : k = f
                    · subst hkf
                      have hd5 : decide ((days + 1) * D k ≤ C k) = false := decide_eq_false (by omega)
                      clear hout
                      go_wp2
                      go_big_quiet (fail)
                      go_wp2
                      go_roundw
                      case rel => exact ⟨k + 1, true, by omega, by go_num, rfl, .inl rfl, below_drewN hbel _⟩
                      case measure => simp [intOf]; omega
                    · have hd5 : ((k : Int) == (f : Int)) = false := by simp; omega
                      have hd6 : (k == f) = false := by simpa using hkf
                      clear hkf hout
                      go_wp2
                      go_big_quiet (fail)
                      go_wp2
                      go_roundw
                      case rel => exact ⟨k + 1, true, by omega, by go_num, rfl, .inl rfl, below_drewN hbel _⟩
                      case measure => simp [intOf]; omega
                · obtain rfl : n = k := by omega
                  have hbt : b = true := HU.out.resolve_right (by omega)
                  subst hbt
                  clear HU
                  go_wp2_with fail
                  refine (countGap_ok g n cap gc cc X C L Q K wr HG.out (Nat.lt_of_lt_of_le lg hbel.size) (HRa.out.below hbel lg) (Nat.lt_of_lt_of_le lc hbel.size) (HK.out.below hbel lc) HC.out.c).mono ?_
                  rintro e w6 ⟨gg, cg, rfl, hgr, hgl, hb6⟩
                  have B6 := hbel.trans (hb6.mono hbel.size)
                  have HGR := Lib.hid hgr
                  clear hgr hb6
                  have cf : w6.cell? ⟨gd, f, none⟩ = some (.int .i64 (D f)) := (bcell B6 _ _ ld).trans (HD.out f hfn)
                  have hf0 : decide ((f : Int) < 0) = false := by simp
                  have hf1 : decide (n ≤ f) = false := by simp; omega
                  have hf2 : (D f == 0) = false := by simp; omega
                  have hf3 : (f : Int) < (n : Int) := by omega
                  have hf4 : (0 : Int) ≤ (f : Int) := by omega
                  go_wp2
                  clear cf hf0 hf1 hf2 hf3 hf4
                  go_loopw [24, 25] (fun s i wr => ∃ k : Nat, k ≤ n ∧ i = .int .i64 k ∧ s = .int .i64 (gapSum K C Q k) ∧ Below w6.heap.size w6 wr) (fun _ i _ => n - (intOf i).toNat)
                  case atStart => exact ⟨0, Nat.zero_le _, rfl, rfl, Below.refl _ _⟩
                  case round =>
                    obtain ⟨k, hk, rfl, rfl, hbel⟩ := hrel
                    have hbw := B6.trans (hbel.mono B6.size)
                    by_cases hlt : k < n
                    · have hlti : (k : Int) < (n : Int) := by omega
                      have hki : (0 : Int) ≤ (k : Int) := by omega
                      obtain ⟨_, d1, _, d3⟩ := HRa.out k hlt
                      rw [← bcell hbw _ _ lg] at d1 d3
                      simp only [Nat.zero_add] at d1 d3
                      have e0 : wr.cell? ⟨gg, k, none⟩ = some (.int .i64 (K k - C k)) := (bcell hbel _ _ hgl).trans (HGR.out k hlt)
                      have e1 := (bcell hbw _ _ lc).trans (HK.out k hlt)
                      obtain ⟨n0, n1⟩ := HC.out.c k hlt
                      obtain ⟨b0, b1⟩ := HG.out.c k hlt
                      obtain ⟨q0, q1⟩ := HG.out.q k hlt
                      obtain ⟨s0, s1⟩ := gapSum_b HG.out HC.out.c k hk
                      obtain ⟨p0, p1⟩ := gap_prod (x := K k - C k) (by omega) (by omega) q0 q1
                      have t1 : IntKind.i64.wrap (K k - C k) = K k - C k := IntWalk.i64_in _ (by omega)
                      have t2 : IntKind.i64.wrap ((K k - C k) * Q k) = (K k - C k) * Q k := IntWalk.i64_in _ (by omega)
                      have t3 : IntKind.i64.wrap (gapSum K C Q k + (K k - C k) * Q k) = gapSum K C Q k + (K k - C k) * Q k := IntWalk.i64_in _ (by omega)
                      have HS := Lib.hid (show gapSum K C Q (k + 1) = gapSum K C Q k + (K k - C k) * Q k from rfl)
                      go_wp2
                      go_big_quiet (fail)
                      go_wp2
                      go_big_quiet (fail)
                      go_wp2
                      go_roundw
                      case rel => exact ⟨k + 1, by omega, by go_num, by rw [HS.out], below_drewN hbel _⟩
                      case measure => simp [intOf]; omega
                    · obtain rfl : n = k := by omega
                      go_wp2_with fail
                      refine (ValidGoods_ok g n cap X C L Q wr HG.out (Nat.lt_of_lt_of_le lg hbw.size) (HRa.out.below hbw lg)).mono ?_
                      rintro e w7 ⟨rfl, hb7⟩
                      go_wp2
                      go_ret
                      exact ⟨rfl, h1b.trans ((hbw.trans (hb7.mono hbw.size)).mono h1b.size)⟩
end Go.Proofs.Ytlegehjdojhfgaa
