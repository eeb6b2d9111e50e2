/- Goods that are drawn, part 8: by how much counted pieces differ. No statement of the program is proved here. -/
import Derived.Test.YtlegehjdojhfgaaGc
namespace Go.Proofs.Ytlegehjdojhfgaa
open Go.RowKit
set_option linter.unusedVariables false

/-- What the gaps are worth. -/
def gapSum (K C Q : Nat → Int) : Nat → Int
  | 0 => 0
  | k + 1 => gapSum K C Q k + (K k - C k) * Q k
theorem gap_prod {x q : Int} (h0 : -39 ≤ x) (h1 : x ≤ 100) (q0 : 0 ≤ q) (q1 : q ≤ 2950) : -115050 ≤ x * q ∧ x * q ≤ 295000 := by
  have a := Int.mul_le_mul_of_nonneg_right h0 q0
  have b := Int.mul_le_mul_of_nonneg_right h1 q0
  omega
theorem gapSum_b {n : Nat} {X : Nat → Nat} {K C L Q : Nat → Int} (hG : Goods n X C L Q) (hK : ∀ i, i < n → 0 ≤ K i ∧ K i ≤ 100) : ∀ k, k ≤ n → -115050 * (k : Int) ≤ gapSum K C Q k ∧ gapSum K C Q k ≤ 295000 * (k : Int)
  | 0, _ => by simp [gapSum]
  | k + 1, h => by
    obtain ⟨a, b⟩ := gapSum_b hG hK k (by omega)
    obtain ⟨c0, c1⟩ := hG.c k (by omega)
    obtain ⟨q0, q1⟩ := hG.q k (by omega)
    obtain ⟨k0, k1⟩ := hK k (by omega)
    obtain ⟨p0, p1⟩ := gap_prod (x := K k - C k) (by omega) (by omega) q0 q1
    have e : gapSum K C Q (k + 1) = gapSum K C Q k + (K k - C k) * Q k := rfl
    rw [e]
    omega

def GapPost (w : World) (n : Nat) (K C Q : Nat → Int) (e : Ending) (w' : World) : Prop := ∃ gg cg, e = .returned (.tuple #[.slice (some ⟨gg, 0, none⟩) n cg, .int .i64 (gapSum K C Q n), .int .i64 0]) ∧ RdI w' gg n (fun i => K i - C i) ∧ gg < w'.heap.size ∧ Below w.heap.size w w'

set_option maxHeartbeats 4000000 in
theorem countGap_ok (g n cap gc cc : Nat) (X : Nat → Nat) (C L Q K : Nat → Int) (w : World) (hG : Goods n X C L Q) (hl1 : g < w.heap.size) (hR : RdGood w g 0 n (fun i => nm (X i)) C L Q)
    (hgc : gc < w.heap.size) (hK : RdI w gc n K) (hKb : ∀ i, i < n → 0 ≤ K i ∧ K i ≤ 100) :
    Calls Try.prog 9 #[.slice (some ⟨g, 0, none⟩) n cap, .slice (some ⟨gc, 0, none⟩) n cc] w (GapPost w n K C Q) := by
  have hv := ValidGoods_ok g n cap X C L Q w hG hl1 hR
  obtain ⟨i0, hi, hz0, hz1, hz2⟩ := info_parts (show (Try.prog.info? 2).map (fun i => (i.zero, i.size, i.bytes)) = some (some (.int .i64 0), 1, 8) by kernel_rfl)
  have HV := Lib.hid hv
  have HG := Lib.hid hG
  have HR := Lib.hid hR
  have HK := Lib.hid hK
  have HB := Lib.hid hKb
  have hn5 := hG.n5
  clear hv hG hR hK hKb
  go_enter Try.func9, Try.ntmps9
  go_wp2_with fail
  refine HV.out.mono ?_
  rintro e w1 ⟨rfl, hb1⟩
  go_wp2_with fail
  refine (areCounts_ok gc n cap cc (some ⟨g, 0, none⟩) K w1 hn5 (HK.out.below hb1 hgc) HB.out).mono ?_
  rintro e w2 ⟨rfl, rfl⟩
  have hw1 := hb1.size
  go_wp2
  go_loopw [7, 8, 21] (fun v sv i wr => ∃ k gg cg : Nat, k ≤ n ∧ i = .int .i64 k ∧ v = .slice (some ⟨gg, 0, none⟩) k cg ∧ sv = .int .i64 (gapSum K C Q k) ∧ wr.ownsRow w.heap.size 2 1 (.slice (some ⟨gg, 0, none⟩) k cg) k ((List.range k).map fun i => .int .i64 (K i - C i)) ∧ Below w.heap.size w wr) (fun _ _ i _ => n - (intOf i).toNat)
  case atStart => exact ⟨0, _, _, Nat.zero_le _, rfl, rfl, rfl, by simpa using World.ownsRow_lit (base := w.heap.size) (size := 1) (e := 2) w1 #[] 0 hw1 (by decide) rfl, hb1.alloc hw1 _⟩
  case round =>
    obtain ⟨k, gg, cg, hk, rfl, rfl, rfl, hown, hbel⟩ := hrel
    have HO := Lib.hid hown
    have hlt0 := hown.lt gg rfl
    clear hb1 HV hown
    have hwr := hbel.size
    by_cases hlt : k < n
    · have hlti : (k : Int) < (n : Int) := by omega
      have hki : (0 : Int) ≤ (k : Int) := by omega
      have c0 := HK.out k hlt
      rw [← bcell hbel _ _ hgc] at c0
      obtain ⟨d0, d1, d2, d3⟩ := HR.out k hlt
      rw [← bcell hbel _ _ hl1] at d0 d1 d2 d3
      simp only [Nat.zero_add] at d0 d1 d2 d3
      obtain ⟨n0, n1⟩ := HB.out k hlt
      obtain ⟨b0, b1⟩ := HG.out.c k hlt
      obtain ⟨q0, q1⟩ := HG.out.q k hlt
      obtain ⟨s0, s1⟩ := gapSum_b HG.out HB.out k hk
      obtain ⟨p0, p1⟩ := gap_prod (x := K k - C k) (by omega) (by omega) q0 q1
      have HX := Lib.hid (show (List.range (k + 1)).map (fun i => Value.int .i64 (K i - C i)) = (List.range k).map (fun i => Value.int .i64 (K i - C i)) ++ [.int .i64 (K k - C k)] by simp [List.range_succ])
      have HS := Lib.hid (show gapSum K C Q (k + 1) = gapSum K C Q k + (K k - C k) * Q k from rfl)
      go_wp2_with (at_builtin; refine wpList_append_lies _ rfl _ _ 27 rfl w.heap.size 2 i0 (.int .i64 0) 1 8 Try.underlying27 hi hz0 hz1 hz2 rfl (by decide) _ _ _ rfl (HO.out.alloc _) ⟨wr.heap.size, 0, none⟩ 1 1 [.int .i64 (K k - C k)] rfl rfl (one_new _ _ _) ?c2 (by decide) ?c3 ?c4 ?c5 _ rfl ?_)
      case c2 => intro u hu; simp at hu; subst hu; rfl
      case c3 => unfold maxLen; omega
      case c4 => omega
      case c5 => simp; omega
      · intro g2 cap2 w3 hown3 hgrow _ _
        have hbel3 := below_grown hbel HO.out hgrow
        have HO3 := Lib.hid hown3
        have a0 : w3.cell? ⟨gc, k, none⟩ = some (.int .i64 (K k)) := (bcell hbel3 _ _ hgc).trans (HK.out k hlt)
        obtain ⟨x0, x1, x2, x3⟩ := HR.out k hlt
        rw [← bcell hbel3 _ _ hl1] at x0 x1 x2 x3
        simp only [Nat.zero_add] at x0 x1 x2 x3
        clear hown3 hgrow HO c0 d0 d1 d2 d3
        have t1 : IntKind.i64.wrap (K k - C k) = K k - C k := IntWalk.i64_in _ (by omega)
        have t2 : IntKind.i64.wrap ((K k - C k) * Q k) = (K k - C k) * Q k := IntWalk.i64_in _ (by omega)
        have t3 : IntKind.i64.wrap (gapSum K C Q k + (K k - C k) * Q k) = gapSum K C Q k + (K k - C k) * Q k := IntWalk.i64_in _ (by omega)
        go_wp2
        go_big_quiet (fail)
        go_wp2
        go_roundw
        case rel => exact ⟨k + 1, g2, cap2, by omega, by go_num, rfl, by rw [HS.out], by rw [HX.out]; exact HO3.out, below_drewN hbel3 _⟩
        case measure => simp [intOf]; omega
    · obtain rfl : k = n := by omega
      clear HK HR HB
      have HP := Lib.hid (show RdI wr gg k (fun i => K i - C i) from fun i hi => by rw [HO.out.cellAt i (by omega)]; simp [hi])
      clear HO
      go_wp2
      go_ret3
      exact ⟨gg, cg, rfl, HP.out, hlt0.2, hbel⟩
end Go.Proofs.Ytlegehjdojhfgaa
