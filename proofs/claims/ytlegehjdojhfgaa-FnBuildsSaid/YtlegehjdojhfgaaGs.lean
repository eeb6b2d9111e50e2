/- Goods that are drawn, part 4: a good is found by its name. -/
import Derived.Test.YtlegehjdojhfgaaGv
import Derived.Deep.LoopGhost
namespace Go.Proofs.Ytlegehjdojhfgaa
open Go.RowKit

set_option maxHeartbeats 2000000 in
theorem search_ok (g n cap : Nat) (X : Nat → Nat) (C L Q : Nat → Int) (w : World) (hG : Goods n X C L Q) (hl1 : g < w.heap.size) (hR : RdGood w g 0 n (fun i => nm (X i)) C L Q) (i0 : Nat) (hi0 : i0 < n) :
    Calls Try.prog 20 #[.slice (some ⟨g, 0, none⟩) n cap, .string (nm (X i0)), .func (.func 21) #[] #[]] w fun e w' => e = .returned (.tuple #[.int .i64 (i0 : Int), .bool true]) ∧ Below w.heap.size w w' := by
  have HR1 := Lib.hid hR
  have HG := Lib.hid hG
  have hn5 := hG.n5
  clear hR hG
  go_enter Try.func20, Try.ntmps20
  go_wp2
  go_loopg [9, 10] n (fun kx s9 s10 wr => ∃ lo hi : Nat, s9 = .int .i64 lo ∧ s10 = .int .i64 hi ∧ lo ≤ i0 ∧ i0 ≤ hi ∧ hi ≤ n ∧ hi - lo ≤ kx ∧ Below w.heap.size w wr)
  case atStart => exact ⟨0, n, rfl, rfl, Nat.zero_le _, by omega, Nat.le_refl _, by omega, Below.refl _ _⟩
  case round =>
    obtain ⟨lo, hi, rfl, rfl, hlo, hhi, hin, hg, hbel⟩ := hrel
    by_cases hlt : lo < hi
    · obtain ⟨c0, c1, c2, c3⟩ := HR1.out ((lo + hi) / 2) (by omega)
      rw [← bcell hbel _ _ hl1] at c0 c1 c2 c3
      simp only [Nat.zero_add] at c0 c1 c2 c3
      have hc := cmp_any (X ((lo + hi) / 2)) (X i0) (HG.out.x5 _ (by omega)) (HG.out.x5 _ hi0) (C ((lo + hi) / 2)) (L ((lo + hi) / 2)) (Q ((lo + hi) / 2)) wr
      by_cases hyx : (lo + hi) / 2 < i0
      · rw [cmpN_lt (HG.out.up _ _ hyx hi0)] at hc
        go_wp2_with (go_at_call 21; refine hc.mono ?_; rintro e w' ⟨rfl, hb2⟩)
        go_roundg (hi - ((lo + hi) / 2 + 1))
        case measure => omega
        case rel => exact ⟨(lo + hi) / 2 + 1, hi, by rw [show ((lo : Int) + (hi : Int)) / 2 + 1 = (((lo + hi) / 2 + 1 : Nat) : Int) by omega], rfl, by omega, hhi, hin, Nat.le_refl _, hbel.trans (hb2.mono hbel.size)⟩
      · have hge : ∃ d : Int, 0 ≤ d ∧ cmpN (X ((lo + hi) / 2)) (X i0) = d := by
          by_cases he : (lo + hi) / 2 = i0
          · exact ⟨0, by omega, by rw [he, cmpN_eq]⟩
          · exact ⟨1, by omega, cmpN_gt (HG.out.up _ _ (by omega) (by omega))⟩
        obtain ⟨d, hd0, hd⟩ := hge
        rw [hd] at hc
        clear hd
        go_wp2_with (go_at_call 21; refine hc.mono ?_; rintro e w' ⟨rfl, hb2⟩)
        go_roundg ((lo + hi) / 2 - lo)
        case measure => omega
        case rel => exact ⟨lo, (lo + hi) / 2, rfl, by rw [show ((lo : Int) + (hi : Int)) / 2 = (((lo + hi) / 2 : Nat) : Int) by omega], hlo, by omega, by omega, Nat.le_refl _, hbel.trans (hb2.mono hbel.size)⟩
    · obtain rfl : lo = i0 := by omega
      obtain rfl : hi = lo := by omega
      obtain ⟨c0, c1, c2, c3⟩ := HR1.out hi hi0
      rw [← bcell hbel _ _ hl1] at c0 c1 c2 c3
      simp only [Nat.zero_add] at c0 c1 c2 c3
      have hc := cmp_any (X hi) (X hi) (HG.out.x5 _ hi0) (HG.out.x5 _ hi0) (C hi) (L hi) (Q hi) wr
      rw [cmpN_eq] at hc
      go_wp2_with (go_at_call 21; refine hc.mono ?_; rintro e w' ⟨rfl, hb2⟩)
      go_ret2
      exact ⟨rfl, hbel.trans (hb2.mono hbel.size)⟩

set_option maxHeartbeats 1000000 in
theorem goodOf_ok (g n cap : Nat) (X : Nat → Nat) (C L Q : Nat → Int) (w : World) (hG : Goods n X C L Q) (hl1 : g < w.heap.size) (hR : RdGood w g 0 n (fun i => nm (X i)) C L Q) (i0 : Nat) (hi0 : i0 < n) :
    Calls Try.prog 14 #[.slice (some ⟨g, 0, none⟩) n cap, .string (nm (X i0))] w fun e w' => e = .returned (.tuple #[.int .i64 (i0 : Int), .bool true]) ∧ Below w.heap.size w w' := by
  have hc := search_ok g n cap X C L Q w hG hl1 hR i0 hi0
  clear hG hR
  go_enter Try.func14, Try.ntmps14
  go_wp2_with (go_at_call 20; refine hc.mono ?_; rintro e w' ⟨rfl, hb⟩)
  go_ret2
  exact ⟨rfl, hb⟩
end Go.Proofs.Ytlegehjdojhfgaa
