/- The contracts of CheapestQuote. -/
import Derived.Test.YtbhiobmkgiokiaaQuotes
namespace Go.Proofs.Ytbhiobmkgiokiaa
open Go.RowKit
attribute [local go_sem ↓] Go.wp_at_zero Go.wp_at_succ
set_option linter.unusedVariables false

/-- What the function hands back. -/
def chRes (n : Nat) (F0 : Nat → ByteArray) (F1 : Nat → Int) (F2 : Nat → Int) (F3 : Nat → Int) (F4 : Nat → Int)  : Int × Int × Int := (if listQuote n F0 F1 F2 F3 F4 = true then (if (!decide (n = 0)) = true then ((((bestTo (fun k => -(priceV (F1 k) (F2 k) (F3 k) (F4 k))) n) : Nat) : Int), priceV (F1 (bestTo (fun k => -(priceV (F1 k) (F2 k) (F3 k) (F4 k))) n)) (F2 (bestTo (fun k => -(priceV (F1 k) (F2 k) (F3 k) (F4 k))) n)) (F3 (bestTo (fun k => -(priceV (F1 k) (F2 k) (F3 k) (F4 k))) n)) (F4 (bestTo (fun k => -(priceV (F1 k) (F2 k) (F3 k) (F4 k))) n)), 0) else (0, 0, 3)) else (0, 0, 1))

set_option maxHeartbeats 2000000 in
theorem specCheapestQuote_any (g n : Nat) (F0 : Nat → ByteArray) (F1 : Nat → Int) (F2 : Nat → Int) (F3 : Nat → Int) (F4 : Nat → Int)  (v1 : Int) (v2 : Int) (v3 : Int) (w : World) (t1 : TypeId) (hn : n ≤ 1048576) (h1 : w.rowIs g t1 (n * 5) (flat 5 (rowQuote F0 F1 F2 F3 F4))) (hS0 : ∀ i, i < n → (F0 i).size ≤ maxLen)  (hv : chRes n F0 F1 F2 F3 F4  = (v1, v2, v3)) :
    Calls Try.prog 62 #[.slice (some ⟨g, 0, none⟩) n n] w fun e w' => e = .returned (.tuple #[.int .i64 v1, .int .i64 v2, .int .i64 v3]) ∧ Below w.heap.size w w' := by
  have hl1 := h1.lt
  have HR1 := Lib.hid (RdQuote.of_row h1)
  have H1 := Lib.hid h1
  have HS0 := Lib.hid hS0
  clear h1 hS0
  by_cases e0 : listQuote n F0 F1 F2 F3 F4 = true
  case neg =>
    obtain ⟨rfl, rfl, rfl⟩ : v1 = 0 ∧ v2 = 0 ∧ v3 = 1 := by unfold chRes at hv; rw [if_neg e0] at hv; simpa [eq_comm] using hv
    have e0n : (listQuote n F0 F1 F2 F3 F4) = false := by simpa using e0
    clear hv e0
    go_enter Try.func62, Try.ntmps62
    go_wp2_with fail
    refine (OkQuote_any _ _ F0 F1 F2 F3 F4 _ _ hn H1.out HS0.out).mono ?_
    rintro e w1 ⟨rfl, hb1⟩
    go_wp2_with (first | (go_at_call 73; refine (l00In_any _ _ _ _).mono ?_; rintro e w' ⟨rfl, rfl⟩) | go_in)
    go_ret3
    exact ⟨rfl, hb1⟩
  by_cases e1 : (!decide (n = 0)) = true
  case neg =>
    obtain ⟨rfl, rfl, rfl⟩ : v1 = 0 ∧ v2 = 0 ∧ v3 = 3 := by unfold chRes at hv; rw [if_pos e0, if_neg e1] at hv; simpa [eq_comm] using hv
    have e1n : ((!decide (n = 0))) = false := by simpa using e1
    have q1 : n = 0 := by simpa using e1n
    have q2 : ((n : Int) == 0) = true := by simp; omega
    clear e1n q1
    clear hv e1
    go_enter Try.func62, Try.ntmps62
    go_wp2_with fail
    refine (OkQuote_any _ _ F0 F1 F2 F3 F4 _ _ hn H1.out HS0.out).mono ?_
    rintro e w1 ⟨rfl, hb1⟩
    go_wp2_with (first | (go_at_call 73; refine (l00In_any _ _ _ _).mono ?_; rintro e w' ⟨rfl, rfl⟩) | go_in)
    go_ret3
    exact ⟨rfl, hb1⟩
  replace hv : ((((bestTo (fun k => -(priceV (F1 k) (F2 k) (F3 k) (F4 k))) n) : Nat) : Int), priceV (F1 (bestTo (fun k => -(priceV (F1 k) (F2 k) (F3 k) (F4 k))) n)) (F2 (bestTo (fun k => -(priceV (F1 k) (F2 k) (F3 k) (F4 k))) n)) (F3 (bestTo (fun k => -(priceV (F1 k) (F2 k) (F3 k) (F4 k))) n)) (F4 (bestTo (fun k => -(priceV (F1 k) (F2 k) (F3 k) (F4 k))) n)), 0) = (v1, v2, v3) := by unfold chRes at hv; rw [if_pos e0, if_pos e1] at hv; exact hv
  have q1 : ¬ n = 0 := by simpa using e1
  have q2 : ((n : Int) == 0) = false := by simp; omega
  have q3 : 0 < n := by omega
  clear e1 q1
  have HV := Lib.hid hv
  clear hv
  go_enter Try.func62, Try.ntmps62
  go_wp2_with fail
  refine (OkQuote_any _ _ F0 F1 F2 F3 F4 _ _ hn H1.out HS0.out).mono ?_
  rintro e w1 ⟨rfl, hb1⟩
  have H2 := Lib.hid (row_below H1.out hb1 H1.out.lt)
  go_wp2
  go_loopw [5, 6] (fun v i wr => ∃ (k b : Nat), k ≤ n ∧ b < n ∧ i = .int .i64 k ∧ v = .int .i64 b ∧ Hid (b = bestTo (fun k => -(priceV (F1 k) (F2 k) (F3 k) (F4 k))) k) ∧ Below w.heap.size w wr) (fun _ i _ => n - (intOf i).toNat)
  case atStart => exact ⟨1, 0, by omega, by omega, rfl, rfl, (bestTo_one _).symm, hb1⟩
  case round =>
    obtain ⟨k, b, hk, hbn, rfl, rfl, hbest, hbel⟩ := hrel
    have hbi : (b : Int) < (n : Int) := by omega
    have hb0 : (0 : Int) ≤ (b : Int) := by omega
    obtain ⟨d0, d1, d2, d3, d4⟩ := HR1.out b hbn
    rw [← bcell hbel _ _ hl1] at d0 d1 d2 d3 d4
    simp only [Nat.zero_add] at d0 d1 d2 d3 d4
    have hgl : g < wr.heap.size := Nat.lt_of_lt_of_le hl1 hbel.size
    by_cases hlt : k < n
    · have hlti : (k : Int) < (n : Int) := by omega
      have hki : (0 : Int) ≤ (k : Int) := by omega
      obtain ⟨c0, c1, c2, c3, c4⟩ := HR1.out k hlt
      have hbc := bcell hbel
      rw [← hbc _ _ hl1] at c0 c1 c2 c3 c4
      simp only [Nat.zero_add] at c0 c1 c2 c3 c4
      clear hbc
      by_cases hc : priceV (F1 k) (F2 k) (F3 k) (F4 k) < priceV (F1 b) (F2 b) (F3 b) (F4 b)
      · have HB := Lib.hid (show Hid (k = bestTo (fun k => -(priceV (F1 k) (F2 k) (F3 k) (F4 k))) (k + 1)) by have h := hbest.out; show _ = _; rw [bestTo_yes (by rw [← h]; show -(priceV (F1 b) (F2 b) (F3 b) (F4 b)) < -(priceV (F1 k) (F2 k) (F3 k) (F4 k)); omega)])
        clear hbest
        go_wp2
        go_big_quiet (first | (go_at_call 118; exact Calls.quiet_of (l24Price_any _ _ _ _ _ _ _ _ c0 c1 c2 c3 c4)) | (go_at_call 118; exact Calls.quiet_of (l24Price_any _ _ _ _ _ _ _ _ d0 d1 d2 d3 d4)))
        go_wp2
        go_roundw
        case rel => first | exact ⟨k + 1, k, by omega, by omega, by go_num, rfl, HB.out, below_drewN hbel _⟩ | ((repeat apply Exists.intro); exact ⟨⟨k + 1, k, by omega, by omega, by go_num, rfl, HB.out, below_drewN hbel _⟩, rfl⟩)
        case measure => simp [intOf]; omega
      · have HB := Lib.hid (show Hid (b = bestTo (fun k => -(priceV (F1 k) (F2 k) (F3 k) (F4 k))) (k + 1)) by have h := hbest.out; show _ = _; rw [bestTo_no (by rw [← h]; show ¬ -(priceV (F1 b) (F2 b) (F3 b) (F4 b)) < -(priceV (F1 k) (F2 k) (F3 k) (F4 k)); omega)]; exact h)
        have hcd : decide (priceV (F1 k) (F2 k) (F3 k) (F4 k) < priceV (F1 b) (F2 b) (F3 b) (F4 b)) = false := by simpa using hc
        clear hbest
        go_wp2
        go_big_quiet (first | (go_at_call 118; exact Calls.quiet_of (l24Price_any _ _ _ _ _ _ _ _ c0 c1 c2 c3 c4)) | (go_at_call 118; exact Calls.quiet_of (l24Price_any _ _ _ _ _ _ _ _ d0 d1 d2 d3 d4)))
        go_wp2
        go_roundw
        case rel => first | exact ⟨k + 1, b, by omega, by omega, by go_num, rfl, HB.out, below_drewN hbel _⟩ | ((repeat apply Exists.intro); exact ⟨⟨k + 1, b, by omega, by omega, by go_num, rfl, HB.out, below_drewN hbel _⟩, rfl⟩)
        case measure => simp [intOf]; omega
    · obtain rfl : k = n := by omega
      have hv := HV.out
      rw [← hbest.out] at hv
      simp only [Prod.mk.injEq] at hv
      have HVV := Lib.hid hv
      clear hbest hv
      go_wp2_with fail
      refine (l24Price_any _ _ _ _ _ _ _ _ d0 d1 d2 d3 d4).mono ?_
      rintro e w2 ⟨rfl, q, rfl⟩
      go_wp2
      go_ret3
      exact ⟨by rw [← HVV.out.1, ← HVV.out.2.1, ← HVV.out.2.2]; rfl, below_drewN hbel _⟩

set_option maxHeartbeats 2000000 in
theorem implCheapestQuote_any (g n : Nat) (F0 : Nat → ByteArray) (F1 : Nat → Int) (F2 : Nat → Int) (F3 : Nat → Int) (F4 : Nat → Int)  (v1 : Int) (v2 : Int) (v3 : Int) (w : World) (t1 : TypeId) (hn : n ≤ 1048576) (h1 : w.rowIs g t1 (n * 5) (flat 5 (rowQuote F0 F1 F2 F3 F4))) (hS0 : ∀ i, i < n → (F0 i).size ≤ maxLen)  (hv : chRes n F0 F1 F2 F3 F4  = (v1, v2, v3)) :
    Calls Try.prog 63 #[.slice (some ⟨g, 0, none⟩) n n] w fun e w' => e = .returned (.tuple #[.int .i64 v1, .int .i64 v2, .int .i64 v3]) ∧ Below w.heap.size w w' := by
  have hl1 := h1.lt
  have HR1 := Lib.hid (RdQuote.of_row h1)
  have H1 := Lib.hid h1
  have HS0 := Lib.hid hS0
  clear h1 hS0
  by_cases e0 : listQuote n F0 F1 F2 F3 F4 = true
  case neg =>
    obtain ⟨rfl, rfl, rfl⟩ : v1 = 0 ∧ v2 = 0 ∧ v3 = 1 := by unfold chRes at hv; rw [if_neg e0] at hv; simpa [eq_comm] using hv
    have e0n : (listQuote n F0 F1 F2 F3 F4) = false := by simpa using e0
    clear hv e0
    go_enter Try.func63, Try.ntmps63
    go_wp2_with fail
    refine (ValidQuote_any _ _ F0 F1 F2 F3 F4 _ _ hn H1.out HS0.out).mono ?_
    rintro e w1 ⟨rfl, hb1⟩
    go_wp2_with (first | (go_at_call 77; refine (within_any _ _ _ _).mono ?_; rintro e w' ⟨rfl, rfl⟩) | go_in)
    go_ret3
    exact ⟨rfl, hb1⟩
  by_cases e1 : (!decide (n = 0)) = true
  case neg =>
    obtain ⟨rfl, rfl, rfl⟩ : v1 = 0 ∧ v2 = 0 ∧ v3 = 3 := by unfold chRes at hv; rw [if_pos e0, if_neg e1] at hv; simpa [eq_comm] using hv
    have e1n : ((!decide (n = 0))) = false := by simpa using e1
    have q1 : n = 0 := by simpa using e1n
    have q2 : ((n : Int) == 0) = true := by simp; omega
    clear e1n q1
    clear hv e1
    go_enter Try.func63, Try.ntmps63
    go_wp2_with fail
    refine (ValidQuote_any _ _ F0 F1 F2 F3 F4 _ _ hn H1.out HS0.out).mono ?_
    rintro e w1 ⟨rfl, hb1⟩
    go_wp2_with (first | (go_at_call 77; refine (within_any _ _ _ _).mono ?_; rintro e w' ⟨rfl, rfl⟩) | go_in)
    go_ret3
    exact ⟨rfl, hb1⟩
  replace hv : ((((bestTo (fun k => -(priceV (F1 k) (F2 k) (F3 k) (F4 k))) n) : Nat) : Int), priceV (F1 (bestTo (fun k => -(priceV (F1 k) (F2 k) (F3 k) (F4 k))) n)) (F2 (bestTo (fun k => -(priceV (F1 k) (F2 k) (F3 k) (F4 k))) n)) (F3 (bestTo (fun k => -(priceV (F1 k) (F2 k) (F3 k) (F4 k))) n)) (F4 (bestTo (fun k => -(priceV (F1 k) (F2 k) (F3 k) (F4 k))) n)), 0) = (v1, v2, v3) := by unfold chRes at hv; rw [if_pos e0, if_pos e1] at hv; exact hv
  have q1 : ¬ n = 0 := by simpa using e1
  have q2 : ((n : Int) == 0) = false := by simp; omega
  have q3 : 0 < n := by omega
  clear e1 q1
  have HV := Lib.hid hv
  clear hv
  go_enter Try.func63, Try.ntmps63
  go_wp2_with fail
  refine (ValidQuote_any _ _ F0 F1 F2 F3 F4 _ _ hn H1.out HS0.out).mono ?_
  rintro e w1 ⟨rfl, hb1⟩
  have H2 := Lib.hid (row_below H1.out hb1 H1.out.lt)
  go_wp2
  go_loopw [5, 16] (fun v i wr => ∃ (k b : Nat), k ≤ n ∧ b < n ∧ i = .int .i64 k ∧ v = .int .i64 b ∧ Hid (b = bestTo (fun k => -(priceV (F1 k) (F2 k) (F3 k) (F4 k))) k) ∧ Below w.heap.size w wr) (fun _ i _ => n - (intOf i).toNat)
  case atStart => exact ⟨0, 0, by omega, by omega, rfl, rfl, rfl, hb1⟩
  case round =>
    obtain ⟨k, b, hk, hbn, rfl, rfl, hbest, hbel⟩ := hrel
    have hbi : (b : Int) < (n : Int) := by omega
    have hb0 : (0 : Int) ≤ (b : Int) := by omega
    obtain ⟨d0, d1, d2, d3, d4⟩ := HR1.out b hbn
    rw [← bcell hbel _ _ hl1] at d0 d1 d2 d3 d4
    simp only [Nat.zero_add] at d0 d1 d2 d3 d4
    have hgl : g < wr.heap.size := Nat.lt_of_lt_of_le hl1 hbel.size
    by_cases hlt : k < n
    · have hlti : (k : Int) < (n : Int) := by omega
      have hki : (0 : Int) ≤ (k : Int) := by omega
      obtain ⟨c0, c1, c2, c3, c4⟩ := HR1.out k hlt
      have hbc := bcell hbel
      rw [← hbc _ _ hl1] at c0 c1 c2 c3 c4
      simp only [Nat.zero_add] at c0 c1 c2 c3 c4
      clear hbc
      by_cases hc : priceV (F1 k) (F2 k) (F3 k) (F4 k) < priceV (F1 b) (F2 b) (F3 b) (F4 b)
      · have HB := Lib.hid (show Hid (k = bestTo (fun k => -(priceV (F1 k) (F2 k) (F3 k) (F4 k))) (k + 1)) by have h := hbest.out; show _ = _; rw [bestTo_yes (by rw [← h]; show -(priceV (F1 b) (F2 b) (F3 b) (F4 b)) < -(priceV (F1 k) (F2 k) (F3 k) (F4 k)); omega)])
        clear hbest
        go_wp2
        have e0 := Ext.cell (W := wr.alloc (.cells #[.string (F0 k), .int .i64 (F1 k), .int .i64 (F2 k), .int .i64 (F3 k), .int .i64 (F4 k)] 147)) (b := wr.heap.size) (o := 0) (u := .string (F0 k)) (by simp) (by simp)
        have e1 := Ext.cell (W := wr.alloc (.cells #[.string (F0 k), .int .i64 (F1 k), .int .i64 (F2 k), .int .i64 (F3 k), .int .i64 (F4 k)] 147)) (b := wr.heap.size) (o := 1) (u := .int .i64 (F1 k)) (by simp) (by simp)
        have e2 := Ext.cell (W := wr.alloc (.cells #[.string (F0 k), .int .i64 (F1 k), .int .i64 (F2 k), .int .i64 (F3 k), .int .i64 (F4 k)] 147)) (b := wr.heap.size) (o := 2) (u := .int .i64 (F2 k)) (by simp) (by simp)
        have e3 := Ext.cell (W := wr.alloc (.cells #[.string (F0 k), .int .i64 (F1 k), .int .i64 (F2 k), .int .i64 (F3 k), .int .i64 (F4 k)] 147)) (b := wr.heap.size) (o := 3) (u := .int .i64 (F3 k)) (by simp) (by simp)
        have e4 := Ext.cell (W := wr.alloc (.cells #[.string (F0 k), .int .i64 (F1 k), .int .i64 (F2 k), .int .i64 (F3 k), .int .i64 (F4 k)] 147)) (b := wr.heap.size) (o := 4) (u := .int .i64 (F4 k)) (by simp) (by simp)
        have y0 := Ext.cell (W := wr.alloc (.cells #[.string (F0 k), .int .i64 (F1 k), .int .i64 (F2 k), .int .i64 (F3 k), .int .i64 (F4 k)] 147)) (b := g) (o := b * 5) (u := .string (F0 b)) (by rw [World.cell?_alloc_lt _ _ _ hgl]; exact d0) (by simp; omega)
        have y1 := Ext.cell (W := wr.alloc (.cells #[.string (F0 k), .int .i64 (F1 k), .int .i64 (F2 k), .int .i64 (F3 k), .int .i64 (F4 k)] 147)) (b := g) (o := b * 5 + 1) (u := .int .i64 (F1 b)) (by rw [World.cell?_alloc_lt _ _ _ hgl]; exact d1) (by simp; omega)
        have y2 := Ext.cell (W := wr.alloc (.cells #[.string (F0 k), .int .i64 (F1 k), .int .i64 (F2 k), .int .i64 (F3 k), .int .i64 (F4 k)] 147)) (b := g) (o := b * 5 + 2) (u := .int .i64 (F2 b)) (by rw [World.cell?_alloc_lt _ _ _ hgl]; exact d2) (by simp; omega)
        have y3 := Ext.cell (W := wr.alloc (.cells #[.string (F0 k), .int .i64 (F1 k), .int .i64 (F2 k), .int .i64 (F3 k), .int .i64 (F4 k)] 147)) (b := g) (o := b * 5 + 3) (u := .int .i64 (F3 b)) (by rw [World.cell?_alloc_lt _ _ _ hgl]; exact d3) (by simp; omega)
        have y4 := Ext.cell (W := wr.alloc (.cells #[.string (F0 k), .int .i64 (F1 k), .int .i64 (F2 k), .int .i64 (F3 k), .int .i64 (F4 k)] 147)) (b := g) (o := b * 5 + 4) (u := .int .i64 (F4 b)) (by rw [World.cell?_alloc_lt _ _ _ hgl]; exact d4) (by simp; omega)
        refine wp_region_ext (by kernel_rfl) (by kernel_rfl) ?_
        repeat (go_big_quiet_step ((go_at_call 121; exact ext_call (price_any _ _ _ _ _ _))))
        refine wpQuiet_nil ?_
        rintro _ ⟨⟨W1, hW1⟩, rfl⟩
        have hB := below_ext hbel hW1
        clear hW1 e0 e1 e2 e3 e4 y0 y1 y2 y3 y4
        go_wp2
        go_roundw
        case rel => first | exact ⟨k + 1, k, by omega, by omega, by go_num, rfl, HB.out, hB⟩ | ((repeat apply Exists.intro); exact ⟨⟨k + 1, k, by omega, by omega, by go_num, rfl, HB.out, hB⟩, rfl⟩)
        case measure => simp [intOf]; omega
      · have HB := Lib.hid (show Hid (b = bestTo (fun k => -(priceV (F1 k) (F2 k) (F3 k) (F4 k))) (k + 1)) by have h := hbest.out; show _ = _; rw [bestTo_no (by rw [← h]; show ¬ -(priceV (F1 b) (F2 b) (F3 b) (F4 b)) < -(priceV (F1 k) (F2 k) (F3 k) (F4 k)); omega)]; exact h)
        have hcd : decide (priceV (F1 k) (F2 k) (F3 k) (F4 k) < priceV (F1 b) (F2 b) (F3 b) (F4 b)) = false := by simpa using hc
        clear hbest
        go_wp2
        have e0 := Ext.cell (W := wr.alloc (.cells #[.string (F0 k), .int .i64 (F1 k), .int .i64 (F2 k), .int .i64 (F3 k), .int .i64 (F4 k)] 147)) (b := wr.heap.size) (o := 0) (u := .string (F0 k)) (by simp) (by simp)
        have e1 := Ext.cell (W := wr.alloc (.cells #[.string (F0 k), .int .i64 (F1 k), .int .i64 (F2 k), .int .i64 (F3 k), .int .i64 (F4 k)] 147)) (b := wr.heap.size) (o := 1) (u := .int .i64 (F1 k)) (by simp) (by simp)
        have e2 := Ext.cell (W := wr.alloc (.cells #[.string (F0 k), .int .i64 (F1 k), .int .i64 (F2 k), .int .i64 (F3 k), .int .i64 (F4 k)] 147)) (b := wr.heap.size) (o := 2) (u := .int .i64 (F2 k)) (by simp) (by simp)
        have e3 := Ext.cell (W := wr.alloc (.cells #[.string (F0 k), .int .i64 (F1 k), .int .i64 (F2 k), .int .i64 (F3 k), .int .i64 (F4 k)] 147)) (b := wr.heap.size) (o := 3) (u := .int .i64 (F3 k)) (by simp) (by simp)
        have e4 := Ext.cell (W := wr.alloc (.cells #[.string (F0 k), .int .i64 (F1 k), .int .i64 (F2 k), .int .i64 (F3 k), .int .i64 (F4 k)] 147)) (b := wr.heap.size) (o := 4) (u := .int .i64 (F4 k)) (by simp) (by simp)
        have y0 := Ext.cell (W := wr.alloc (.cells #[.string (F0 k), .int .i64 (F1 k), .int .i64 (F2 k), .int .i64 (F3 k), .int .i64 (F4 k)] 147)) (b := g) (o := b * 5) (u := .string (F0 b)) (by rw [World.cell?_alloc_lt _ _ _ hgl]; exact d0) (by simp; omega)
        have y1 := Ext.cell (W := wr.alloc (.cells #[.string (F0 k), .int .i64 (F1 k), .int .i64 (F2 k), .int .i64 (F3 k), .int .i64 (F4 k)] 147)) (b := g) (o := b * 5 + 1) (u := .int .i64 (F1 b)) (by rw [World.cell?_alloc_lt _ _ _ hgl]; exact d1) (by simp; omega)
        have y2 := Ext.cell (W := wr.alloc (.cells #[.string (F0 k), .int .i64 (F1 k), .int .i64 (F2 k), .int .i64 (F3 k), .int .i64 (F4 k)] 147)) (b := g) (o := b * 5 + 2) (u := .int .i64 (F2 b)) (by rw [World.cell?_alloc_lt _ _ _ hgl]; exact d2) (by simp; omega)
        have y3 := Ext.cell (W := wr.alloc (.cells #[.string (F0 k), .int .i64 (F1 k), .int .i64 (F2 k), .int .i64 (F3 k), .int .i64 (F4 k)] 147)) (b := g) (o := b * 5 + 3) (u := .int .i64 (F3 b)) (by rw [World.cell?_alloc_lt _ _ _ hgl]; exact d3) (by simp; omega)
        have y4 := Ext.cell (W := wr.alloc (.cells #[.string (F0 k), .int .i64 (F1 k), .int .i64 (F2 k), .int .i64 (F3 k), .int .i64 (F4 k)] 147)) (b := g) (o := b * 5 + 4) (u := .int .i64 (F4 b)) (by rw [World.cell?_alloc_lt _ _ _ hgl]; exact d4) (by simp; omega)
        refine wp_region_ext (by kernel_rfl) (by kernel_rfl) ?_
        repeat (go_big_quiet_step ((go_at_call 121; exact ext_call (price_any _ _ _ _ _ _))))
        refine wpQuiet_nil ?_
        rintro _ ⟨⟨W1, hW1⟩, rfl⟩
        have hB := below_ext hbel hW1
        clear hW1 e0 e1 e2 e3 e4 y0 y1 y2 y3 y4
        go_wp2
        go_roundw
        case rel => first | exact ⟨k + 1, b, by omega, by omega, by go_num, rfl, HB.out, hB⟩ | ((repeat apply Exists.intro); exact ⟨⟨k + 1, b, by omega, by omega, by go_num, rfl, HB.out, hB⟩, rfl⟩)
        case measure => simp [intOf]; omega
    · obtain rfl : k = n := by omega
      have hv := HV.out
      rw [← hbest.out] at hv
      simp only [Prod.mk.injEq] at hv
      have HVV := Lib.hid hv
      clear hbest hv
      go_wp2_with fail
      refine (price_any _ _ _ _ _ _).mono ?_
      rintro e w2 ⟨rfl, hb2⟩
      go_wp2
      go_ret3
      exact ⟨by rw [← HVV.out.1, ← HVV.out.2.1, ← HVV.out.2.2]; rfl, hbel.trans (hb2.mono hbel.size)⟩
end Go.Proofs.Ytbhiobmkgiokiaa
