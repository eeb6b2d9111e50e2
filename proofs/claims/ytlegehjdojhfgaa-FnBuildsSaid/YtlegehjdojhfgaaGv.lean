/- Goods that are drawn, part 3: they are valid, and are found by their names. -/
import Derived.Test.YtlegehjdojhfgaaGe
namespace Go.Proofs.Ytlegehjdojhfgaa
open Go.RowKit
/-- A Good that is valid. -/
def vGood (x0 : ByteArray) (x1 : Int) (x2 : Int) (x3 : Int) : Bool := nameB x0 && (inB x1 0 100000 && (inB x2 0 100000 && inB x3 0 10000000))

set_option maxHeartbeats 1000000 in
theorem validGood_any (x0 : ByteArray) (x1 : Int) (x2 : Int) (x3 : Int) (w : World) (hs0 : x0.size ≤ maxLen) :
    Calls Try.prog 16 #[.agg #[.string x0, .int .i64 x1, .int .i64 x2, .int .i64 x3]] w fun e w' => e = .returned (.bool (vGood x0 x1 x2 x3)) ∧ w.alloc (.cells #[.string x0, .int .i64 x1, .int .i64 x2, .int .i64 x3] 30) = w' := by
  go_enter Try.func16, Try.ntmps16
  go_wp2_with (first | (go_at_call 23; refine (IsName_any _ _ hs0).mono ?_; rintro e w' ⟨rfl, rfl⟩) | (go_at_call 13; refine (within_any _ _ _ _).mono ?_; rintro e w' ⟨rfl, rfl⟩) | go_in)
  all_goals (go_ret; exact ⟨by simp [vGood, *], rfl⟩)

theorem vGood_ok {x0 : ByteArray} {x1 x2 x3 : Int} (h0 : nameB x0 = true) (h1 : 0 ≤ x1 ∧ x1 ≤ 39) (h2 : 0 ≤ x2 ∧ x2 ≤ 39) (h3 : 0 ≤ x3 ∧ x3 ≤ 2950) : vGood x0 x1 x2 x3 = true := by
  unfold vGood
  rw [h0, inB_mk (by omega) (by omega), inB_mk (by omega) (by omega), inB_mk (by omega) (by omega)]
  rfl

set_option maxHeartbeats 2000000 in
theorem ValidGoods_ok (g n cap : Nat) (X : Nat → Nat) (C L Q : Nat → Int) (w : World) (hG : Goods n X C L Q) (hl1 : g < w.heap.size) (hR : RdGood w g 0 n (fun i => nm (X i)) C L Q) :
    Calls Try.prog 10 #[.slice (some ⟨g, 0, none⟩) n cap] w fun e w' => e = .returned (.bool true) ∧ Below w.heap.size w w' := by
  have HR1 := Lib.hid hR
  have HG := Lib.hid hG
  have hn5 := hG.n5
  clear hR hG
  go_enter Try.func10, Try.ntmps10
  go_wp2
  go_loopw [7] (fun i wr => ∃ (k : Nat), k ≤ n ∧ i = .int .i64 k ∧ Below w.heap.size w wr) (fun i _ => n - (intOf i).toNat)
  case atStart => exact ⟨0, Nat.zero_le _, rfl, Below.refl _ _⟩
  case round =>
    obtain ⟨k, hk, rfl, hbel⟩ := hrel
    by_cases hlt : k < n
    · have hlti : (k : Int) < (n : Int) := by omega
      have hki : (0 : Int) ≤ (k : Int) := by omega
      obtain ⟨c0, c1, c2, c3⟩ := HR1.out k hlt
      have hgl : g < wr.heap.size := Nat.lt_of_lt_of_le hl1 hbel.size
      rw [← bcell hbel _ _ hl1] at c0 c1 c2 c3
      simp only [Nat.zero_add] at c0 c1 c2 c3
      obtain ⟨hnn, hns⟩ := name_nm (HG.out.x5 k hlt)
      have hs0 : (nm (X k)).size ≤ maxLen := by unfold maxLen; omega
      have hv : vGood (nm (X k)) (C k) (L k) (Q k) = true := vGood_ok hnn (HG.out.c k hlt) (HG.out.l k hlt) (HG.out.q k hlt)
      clear hnn hns
      by_cases hk0 : k = 0
      · have hkd : decide (0 < k) = false := by simp; omega
        clear hk0
        go_wp2
        have e0 := Ext.cell (W := wr.alloc (.cells #[.string (nm (X k)), .int .i64 (C k), .int .i64 (L k), .int .i64 (Q k)] 30)) (b := wr.heap.size) (o := 0) (u := .string (nm (X k))) (by simp) (by simp)
        have e1 := Ext.cell (W := wr.alloc (.cells #[.string (nm (X k)), .int .i64 (C k), .int .i64 (L k), .int .i64 (Q k)] 30)) (b := wr.heap.size) (o := 1) (u := .int .i64 (C k)) (by simp) (by simp)
        have e2 := Ext.cell (W := wr.alloc (.cells #[.string (nm (X k)), .int .i64 (C k), .int .i64 (L k), .int .i64 (Q k)] 30)) (b := wr.heap.size) (o := 2) (u := .int .i64 (L k)) (by simp) (by simp)
        have e3 := Ext.cell (W := wr.alloc (.cells #[.string (nm (X k)), .int .i64 (C k), .int .i64 (L k), .int .i64 (Q k)] 30)) (b := wr.heap.size) (o := 3) (u := .int .i64 (Q k)) (by simp) (by simp)
        refine wp_region_ext (by kernel_rfl) (by kernel_rfl) ?_
        repeat (go_big_quiet_step ((go_at_call 16; exact ext_one (validGood_any _ _ _ _ _ hs0))))
        refine wpQuiet_nil ?_
        rintro _ ⟨⟨W1, hW1⟩, rfl⟩
        have hbel2 := below_ext hbel hW1
        clear hW1 e0 e1 e2 e3
        go_wp2
        go_roundw
        case rel => exact ⟨k + 1, by omega, by go_num, hbel2⟩
        case measure => simp [intOf]; omega
      · obtain ⟨j, rfl⟩ : ∃ j, k = j + 1 := ⟨k - 1, by omega⟩
        clear hk0
        obtain ⟨d0, _, _, _⟩ := HR1.out j (by omega)
        rw [← bcell hbel _ _ hl1] at d0
        simp only [Nat.zero_add] at d0
        have hb : Op.bytesLess (nm (X j)).toList (nm (X (j + 1))).toList = true := by
          rw [less_nm (HG.out.x5 j (by omega)) (HG.out.x5 _ hlt)]
          simpa using HG.out.up j (j + 1) (by omega) hlt
        go_wp2
        have e0 := Ext.cell (W := wr.alloc (.cells #[.string (nm (X (j + 1))), .int .i64 (C (j + 1)), .int .i64 (L (j + 1)), .int .i64 (Q (j + 1))] 30)) (b := wr.heap.size) (o := 0) (u := .string (nm (X (j + 1)))) (by simp) (by simp)
        have e1 := Ext.cell (W := wr.alloc (.cells #[.string (nm (X (j + 1))), .int .i64 (C (j + 1)), .int .i64 (L (j + 1)), .int .i64 (Q (j + 1))] 30)) (b := wr.heap.size) (o := 1) (u := .int .i64 (C (j + 1))) (by simp) (by simp)
        have e2 := Ext.cell (W := wr.alloc (.cells #[.string (nm (X (j + 1))), .int .i64 (C (j + 1)), .int .i64 (L (j + 1)), .int .i64 (Q (j + 1))] 30)) (b := wr.heap.size) (o := 2) (u := .int .i64 (L (j + 1))) (by simp) (by simp)
        have e3 := Ext.cell (W := wr.alloc (.cells #[.string (nm (X (j + 1))), .int .i64 (C (j + 1)), .int .i64 (L (j + 1)), .int .i64 (Q (j + 1))] 30)) (b := wr.heap.size) (o := 3) (u := .int .i64 (Q (j + 1))) (by simp) (by simp)
        have e4 := Ext.cell (W := wr.alloc (.cells #[.string (nm (X (j + 1))), .int .i64 (C (j + 1)), .int .i64 (L (j + 1)), .int .i64 (Q (j + 1))] 30)) (b := g) (o := j * 4) (u := .string (nm (X j))) (by rw [World.cell?_alloc_lt _ _ _ hgl]; exact d0) (by simp; omega)
        refine wp_region_ext (by kernel_rfl) (by kernel_rfl) ?_
        repeat (go_big_quiet_step ((go_at_call 16; exact ext_one (validGood_any _ _ _ _ _ hs0))))
        refine wpQuiet_nil ?_
        rintro _ ⟨⟨W1, hW1⟩, rfl⟩
        have hbel2 := below_ext hbel hW1
        clear hW1 e0 e1 e2 e3 e4
        go_wp2
        go_roundw
        case rel => exact ⟨j + 1 + 1, by omega, by go_num, hbel2⟩
        case measure => simp [intOf]; omega
    · obtain rfl : k = n := by omega
      have hle : ((k : Int) ≤ 16) := by omega
      go_wp2_with (first | (go_at_call 17; refine (few_any _ _ _).mono ?_; rintro e w' ⟨rfl, rfl⟩))
      go_ret
      exact ⟨by simp, hbel⟩

theorem eq_nm {i j : Nat} (hi : i < 5) (hj : j < 5) : ((nm i).toList == (nm j).toList) = decide (i = j) := by
  have h : (List.range 5).all (fun i => (List.range 5).all fun j => ((nm i).data.toList == (nm j).data.toList) == decide (i = j)) = true := by decide +kernel
  rw [List.all_eq_true] at h
  have h2 := h i (by simpa using hi)
  rw [List.all_eq_true] at h2
  have h3 := h2 j (by simpa using hj)
  rw [ByteArray.toList_eq, ByteArray.toList_eq]
  exact eq_of_beq h3

/-- What the comparison of two names says. -/
def cmpN (i j : Nat) : Int := if i < j then -1 else if j < i then 1 else 0
theorem cmpN_lt {i j : Nat} (h : i < j) : cmpN i j = -1 := by unfold cmpN; rw [if_pos h]
theorem cmpN_gt {i j : Nat} (h : j < i) : cmpN i j = 1 := by unfold cmpN; rw [if_neg (by omega), if_pos h]
theorem cmpN_eq (i : Nat) : cmpN i i = 0 := by unfold cmpN; rw [if_neg (by omega), if_neg (by omega)]

set_option maxHeartbeats 1000000 in
theorem cmp_any (i j : Nat) (hi : i < 5) (hj : j < 5) (x1 x2 x3 : Int) (w : World) :
    Calls Try.prog 21 #[.agg #[.string (nm i), .int .i64 x1, .int .i64 x2, .int .i64 x3], .string (nm j)] w fun e w' => e = .returned (.int .i64 (cmpN i j)) ∧ Below w.heap.size w w' := by
  have b1 := less_nm hi hj
  have b2 := less_nm hj hi
  have b3 := eq_nm hi hj
  generalize nm i = A at b1 b2 b3 ⊢
  generalize nm j = B at b1 b2 b3 ⊢
  by_cases h1 : i < j
  · rw [cmpN_lt h1]
    rw [decide_eq_true h1] at b1
    clear b2 b3
    go_enter Try.func21, Try.ntmps21
    go_wp2
    go_ret
    exact ⟨rfl, below_new _ _⟩
  · rw [decide_eq_false h1] at b1
    by_cases h2 : j < i
    · rw [cmpN_gt h2]
      rw [decide_eq_true h2] at b2
      rw [decide_eq_false (show ¬ i = j by omega)] at b3
      go_enter Try.func21, Try.ntmps21
      go_wp2
      go_ret
      exact ⟨rfl, below_new _ _⟩
    · obtain rfl : i = j := by omega
      rw [cmpN_eq]
      rw [decide_eq_false h2] at b2
      rw [decide_eq_true rfl] at b3
      go_enter Try.func21, Try.ntmps21
      go_wp2
      go_ret
      exact ⟨rfl, below_new _ _⟩

/-- Numbers that can be read. -/
def RdI (w : World) (g n : Nat) (D : Nat → Int) : Prop := ∀ i, i < n → w.cell? ⟨g, i, none⟩ = some (.int .i64 (D i))
theorem RdI.below {w w' : World} {g n : Nat} {D : Nat → Int} (h : RdI w g n D) (hb : Below w.heap.size w w') (hg : g < w.heap.size) : RdI w' g n D := fun i hi => (bcell hb _ _ hg).trans (h i hi)

set_option maxHeartbeats 1000000 in
theorem areCounts_ok (g n cap cap2 : Nat) (ao : Option Addr) (D : Nat → Int) (w : World) (hn : n ≤ 5) (hR : RdI w g n D) (hD : ∀ i, i < n → 0 ≤ D i ∧ D i ≤ 100) :
    Calls Try.prog 15 #[.slice ao n cap, .slice (some ⟨g, 0, none⟩) n cap2] w fun e w' => e = .returned (.bool true) ∧ w = w' := by
  have HR := Lib.hid hR
  have HD := Lib.hid hD
  clear hR hD
  go_enter Try.func15, Try.ntmps15
  go_wp2
  go_loopw [9] (fun i wr => ∃ (k : Nat), k ≤ n ∧ i = .int .i64 k ∧ Hid (w = wr)) (fun i _ => n - (intOf i).toNat)
  case atStart => exact ⟨0, Nat.zero_le _, rfl, Lib.hid rfl⟩
  case round =>
    obtain ⟨k, hk, rfl, hw⟩ := hrel
    obtain rfl := hw.out
    clear hw
    by_cases hlt : k < n
    · have hlti : (k : Int) < (n : Int) := by omega
      have hki : (0 : Int) ≤ (k : Int) := by omega
      have c0 := HR.out k hlt
      obtain ⟨q0, q1⟩ := HD.out k hlt
      have hin : inB (D k) 0 100000 = true := inB_mk q0 (by omega)
      go_wp2_with (first | (go_at_call 13; refine (within_any _ _ _ _).mono ?_; rintro e w' ⟨rfl, rfl⟩) | go_in)
      go_roundw
      case rel => exact ⟨k + 1, by omega, by go_num, Lib.hid trivial⟩
      case measure => simp [intOf]; omega
    · obtain rfl : k = n := by omega
      go_wp2
      go_ret
      exact ⟨by simp, rfl⟩
end Go.Proofs.Ytlegehjdojhfgaa
