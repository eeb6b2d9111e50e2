/- The contracts of the functions about prices. -/
import Derived.Test.YtbhiobmkgiokiaaQuoteV
import Derived.Test.YtbhiobmkgiokiaaSums
import Derived.Test.YtbhiobmkgiokiaaMore
namespace Go.Proofs.Ytbhiobmkgiokiaa
open Go.RowKit
attribute [local go_sem ↓] Go.wp_at_zero Go.wp_at_succ
set_option linter.unusedVariables false

/-- What the work of a quote costs, and its price. -/
def costV (x1 x2 x3 : Int) : Int := wrap64 (wrap64 (x1 * x2) + x3)

def priceV (x1 x2 x3 x4 : Int) : Int := wrap64 ((wrap64 (wrap64 (costV x1 x2 x3 * wrap64 (1000 + x4)) + 999)).tdiv 1000)

set_option maxHeartbeats 1000000 in
theorem cost_any (x0 : ByteArray) (x1 : Int) (x2 : Int) (x3 : Int) (x4 : Int) (w : World) :
    Calls Try.prog 145 #[.agg #[.string x0, .int .i64 x1, .int .i64 x2, .int .i64 x3, .int .i64 x4]] w fun e w' => e = .returned (.int .i64 (costV x1 x2 x3)) ∧ w.alloc (.cells #[.string x0, .int .i64 x1, .int .i64 x2, .int .i64 x3, .int .i64 x4] 147) = w' := by
  go_enter Try.func145, Try.ntmps145
  go_wp2
  go_ret
  exact ⟨by unfold costV; rfl, rfl⟩

set_option maxHeartbeats 1000000 in
theorem l24Cost_any (b o : Nat) (x0 : ByteArray) (x1 : Int) (x2 : Int) (x3 : Int) (x4 : Int) (w : World) (h0 : w.cell? ⟨b, o, none⟩ = some (.string x0)) (h1 : w.cell? ⟨b, o + 1, none⟩ = some (.int .i64 x1)) (h2 : w.cell? ⟨b, o + 2, none⟩ = some (.int .i64 x2)) (h3 : w.cell? ⟨b, o + 3, none⟩ = some (.int .i64 x3)) (h4 : w.cell? ⟨b, o + 4, none⟩ = some (.int .i64 x4)) :
    Calls Try.prog 143 #[.pointer (some ⟨b, o, none⟩)] w fun e w' => e = .returned (.int .i64 (costV x1 x2 x3)) ∧ ∃ q, w' = w.drewN q := by
  go_enter Try.func143, Try.ntmps143
  go_wp2
  go_big_quiet (fail)
  go_wp2
  go_ret
  exact ⟨by unfold costV; rfl, _, rfl⟩

set_option maxHeartbeats 1000000 in
theorem price_any (x0 : ByteArray) (x1 : Int) (x2 : Int) (x3 : Int) (x4 : Int) (w : World) :
    Calls Try.prog 121 #[.agg #[.string x0, .int .i64 x1, .int .i64 x2, .int .i64 x3, .int .i64 x4]] w fun e w' => e = .returned (.int .i64 (priceV x1 x2 x3 x4)) ∧ Below w.heap.size w w' := by
  go_enter Try.func121, Try.ntmps121
  go_wp2
  have e0 := Ext.cell (W := w.alloc (.cells #[.string x0, .int .i64 x1, .int .i64 x2, .int .i64 x3, .int .i64 x4] 147)) (b := w.heap.size) (o := 0) (u := .string x0) (by simp) (by simp)
  have e1 := Ext.cell (W := w.alloc (.cells #[.string x0, .int .i64 x1, .int .i64 x2, .int .i64 x3, .int .i64 x4] 147)) (b := w.heap.size) (o := 1) (u := .int .i64 x1) (by simp) (by simp)
  have e2 := Ext.cell (W := w.alloc (.cells #[.string x0, .int .i64 x1, .int .i64 x2, .int .i64 x3, .int .i64 x4] 147)) (b := w.heap.size) (o := 2) (u := .int .i64 x2) (by simp) (by simp)
  have e3 := Ext.cell (W := w.alloc (.cells #[.string x0, .int .i64 x1, .int .i64 x2, .int .i64 x3, .int .i64 x4] 147)) (b := w.heap.size) (o := 3) (u := .int .i64 x3) (by simp) (by simp)
  have e4 := Ext.cell (W := w.alloc (.cells #[.string x0, .int .i64 x1, .int .i64 x2, .int .i64 x3, .int .i64 x4] 147)) (b := w.heap.size) (o := 4) (u := .int .i64 x4) (by simp) (by simp)
  refine wp_region_ext (by kernel_rfl) (by kernel_rfl) ?_
  repeat (go_big_quiet_step ((go_at_call 145; exact ext_one (cost_any _ _ _ _ _ _))))
  refine wpQuiet_nil ?_
  rintro _ ⟨⟨W1, hW1⟩, rfl⟩
  have hB := (below_new w _).trans (hW1.mono (by simp))
  clear hW1 e0 e1 e2 e3 e4
  go_wp2
  go_ret
  exact ⟨by unfold priceV; rfl, hB⟩

set_option maxHeartbeats 1000000 in
theorem l24Price_any (b o : Nat) (x0 : ByteArray) (x1 : Int) (x2 : Int) (x3 : Int) (x4 : Int) (w : World) (h0 : w.cell? ⟨b, o, none⟩ = some (.string x0)) (h1 : w.cell? ⟨b, o + 1, none⟩ = some (.int .i64 x1)) (h2 : w.cell? ⟨b, o + 2, none⟩ = some (.int .i64 x2)) (h3 : w.cell? ⟨b, o + 3, none⟩ = some (.int .i64 x3)) (h4 : w.cell? ⟨b, o + 4, none⟩ = some (.int .i64 x4)) :
    Calls Try.prog 118 #[.pointer (some ⟨b, o, none⟩)] w fun e w' => e = .returned (.int .i64 (priceV x1 x2 x3 x4)) ∧ ∃ q, w' = w.drewN q := by
  go_enter Try.func118, Try.ntmps118
  go_wp2
  go_big_quiet ((go_at_call 143; exact Calls.quiet_of (l24Cost_any _ _ _ _ _ _ _ _ h0 h1 h2 h3 h4)))
  go_wp2
  go_ret
  exact ⟨by unfold priceV; rfl, _, rfl⟩

/-- What the function hands back. -/
def totRes (n : Nat) (F0 : Nat → ByteArray) (F1 : Nat → Int) (F2 : Nat → Int) (F3 : Nat → Int) (F4 : Nat → Int)  : Int × Int := (if listQuote n F0 F1 F2 F3 F4 = true then ((sumAll (fun k => priceV (F1 k) (F2 k) (F3 k) (F4 k)) n), 0) else (0, 1))

set_option maxHeartbeats 2000000 in
theorem specTotalPrice_any (g n : Nat) (F0 : Nat → ByteArray) (F1 : Nat → Int) (F2 : Nat → Int) (F3 : Nat → Int) (F4 : Nat → Int)  (v1 : Int) (v2 : Int) (w : World) (t1 : TypeId) (hn : n ≤ 1048576) (h1 : w.rowIs g t1 (n * 5) (flat 5 (rowQuote F0 F1 F2 F3 F4))) (hS0 : ∀ i, i < n → (F0 i).size ≤ maxLen)  (hv : totRes n F0 F1 F2 F3 F4  = (v1, v2)) :
    Calls Try.prog 58 #[.slice (some ⟨g, 0, none⟩) n n] w fun e w' => e = .returned (.tuple #[.int .i64 v1, .int .i64 v2]) ∧ Below w.heap.size w w' := by
  have hl1 := h1.lt
  have HR1 := Lib.hid (RdQuote.of_row h1)
  have H1 := Lib.hid h1
  have HS0 := Lib.hid hS0
  clear h1 hS0
  by_cases e0 : listQuote n F0 F1 F2 F3 F4 = true
  case neg =>
    obtain ⟨rfl, rfl⟩ : v1 = 0 ∧ v2 = 1 := by unfold totRes at hv; rw [if_neg e0] at hv; simpa [eq_comm] using hv
    have e0n : (listQuote n F0 F1 F2 F3 F4) = false := by simpa using e0
    clear hv e0
    go_enter Try.func58, Try.ntmps58
    go_wp2_with fail
    refine (OkQuote_any _ _ F0 F1 F2 F3 F4 _ _ hn H1.out HS0.out).mono ?_
    rintro e w1 ⟨rfl, hb1⟩
    go_wp2_with (first | (go_at_call 73; refine (l00In_any _ _ _ _).mono ?_; rintro e w' ⟨rfl, rfl⟩) | go_in)
    go_ret2
    exact ⟨rfl, hb1⟩
  replace hv : ((sumAll (fun k => priceV (F1 k) (F2 k) (F3 k) (F4 k)) n), 0) = (v1, v2) := by unfold totRes at hv; rw [if_pos e0] at hv; exact hv
  have HV := Lib.hid hv
  clear hv
  go_enter Try.func58, Try.ntmps58
  go_wp2_with fail
  refine (OkQuote_any _ _ F0 F1 F2 F3 F4 _ _ hn H1.out HS0.out).mono ?_
  rintro e w1 ⟨rfl, hb1⟩
  have H2 := Lib.hid (row_below H1.out hb1 H1.out.lt)
  go_wp2
  go_loopw [4, 5] (fun v i wr => ∃ (k : Nat), k ≤ n ∧ i = .int .i64 k ∧ v = .int .i64 (sumAll (fun k => priceV (F1 k) (F2 k) (F3 k) (F4 k)) k) ∧ Below w.heap.size w wr) (fun _ i _ => n - (intOf i).toNat)
  case atStart => exact ⟨0, Nat.zero_le _, rfl, rfl, hb1⟩
  case round =>
    obtain ⟨k, hk, rfl, rfl, hbel⟩ := hrel
    by_cases hlt : k < n
    · have hlti : (k : Int) < (n : Int) := by omega
      obtain ⟨c0, c1, c2, c3, c4⟩ := HR1.out k hlt
      have hbc := bcell hbel
      rw [← hbc _ _ hl1] at c0 c1 c2 c3 c4
      simp only [Nat.zero_add] at c0 c1 c2 c3 c4
      clear hbc
      have HF := Lib.hid (sumAll_succ (fun k => priceV (F1 k) (F2 k) (F3 k) (F4 k)) k)
      go_wp2_with fail
      refine (l24Price_any _ _ _ _ _ _ _ _ c0 c1 c2 c3 c4).mono ?_
      rintro e w2 ⟨rfl, q, rfl⟩
      go_wp2
      go_roundw
      case rel => first | exact ⟨k + 1, by omega, by go_num, by rw [HF.out], below_drewN hbel _⟩ | ((repeat apply Exists.intro); exact ⟨⟨k + 1, by omega, by go_num, by rw [HF.out], below_drewN hbel _⟩, rfl⟩)
      case measure => simp [intOf]; omega
    · obtain rfl : k = n := by omega
      have hv := HV.out
      simp only [Prod.mk.injEq] at hv
      go_wp2
      go_ret2
      exact ⟨by rw [← hv.1, ← hv.2]; rfl, hbel⟩

set_option maxHeartbeats 2000000 in
theorem implTotalPrice_any (g n : Nat) (F0 : Nat → ByteArray) (F1 : Nat → Int) (F2 : Nat → Int) (F3 : Nat → Int) (F4 : Nat → Int)  (v1 : Int) (v2 : Int) (w : World) (t1 : TypeId) (hn : n ≤ 1048576) (h1 : w.rowIs g t1 (n * 5) (flat 5 (rowQuote F0 F1 F2 F3 F4))) (hS0 : ∀ i, i < n → (F0 i).size ≤ maxLen)  (hv : totRes n F0 F1 F2 F3 F4  = (v1, v2)) :
    Calls Try.prog 60 #[.slice (some ⟨g, 0, none⟩) n n] w fun e w' => e = .returned (.tuple #[.int .i64 v1, .int .i64 v2]) ∧ Below w.heap.size w w' := by
  have hl1 := h1.lt
  have HR1 := Lib.hid (RdQuote.of_row h1)
  have H1 := Lib.hid h1
  have HS0 := Lib.hid hS0
  clear h1 hS0
  by_cases e0 : listQuote n F0 F1 F2 F3 F4 = true
  case neg =>
    obtain ⟨rfl, rfl⟩ : v1 = 0 ∧ v2 = 1 := by unfold totRes at hv; rw [if_neg e0] at hv; simpa [eq_comm] using hv
    have e0n : (listQuote n F0 F1 F2 F3 F4) = false := by simpa using e0
    clear hv e0
    go_enter Try.func60, Try.ntmps60
    go_wp2_with fail
    refine (ValidQuote_any _ _ F0 F1 F2 F3 F4 _ _ hn H1.out HS0.out).mono ?_
    rintro e w1 ⟨rfl, hb1⟩
    go_wp2_with (first | (go_at_call 77; refine (within_any _ _ _ _).mono ?_; rintro e w' ⟨rfl, rfl⟩) | go_in)
    go_ret2
    exact ⟨rfl, hb1⟩
  replace hv : ((sumAll (fun k => priceV (F1 k) (F2 k) (F3 k) (F4 k)) n), 0) = (v1, v2) := by unfold totRes at hv; rw [if_pos e0] at hv; exact hv
  have HV := Lib.hid hv
  clear hv
  go_enter Try.func60, Try.ntmps60
  go_wp2_with fail
  refine (ValidQuote_any _ _ F0 F1 F2 F3 F4 _ _ hn H1.out HS0.out).mono ?_
  rintro e w1 ⟨rfl, hb1⟩
  have H2 := Lib.hid (row_below H1.out hb1 H1.out.lt)
  go_wp2
  go_loopw [4, 12] (fun v i wr => ∃ (k : Nat), k ≤ n ∧ i = .int .i64 k ∧ v = .int .i64 (sumAll (fun k => priceV (F1 k) (F2 k) (F3 k) (F4 k)) k) ∧ Below w.heap.size w wr) (fun _ i _ => n - (intOf i).toNat)
  case atStart => exact ⟨0, Nat.zero_le _, rfl, rfl, hb1⟩
  case round =>
    obtain ⟨k, hk, rfl, rfl, hbel⟩ := hrel
    by_cases hlt : k < n
    · have hlti : (k : Int) < (n : Int) := by omega
      obtain ⟨c0, c1, c2, c3, c4⟩ := HR1.out k hlt
      have hbc := bcell hbel
      rw [← hbc _ _ hl1] at c0 c1 c2 c3 c4
      simp only [Nat.zero_add] at c0 c1 c2 c3 c4
      clear hbc
      have HF := Lib.hid (sumAll_succ (fun k => priceV (F1 k) (F2 k) (F3 k) (F4 k)) k)
      go_wp2_with fail
      refine (price_any _ _ _ _ _ _).mono ?_
      rintro e w2 ⟨rfl, hb2⟩
      have hB := below_ext hbel hb2
      clear hb2 c0 c1 c2 c3 c4
      go_wp2
      go_roundw
      case rel => first | exact ⟨k + 1, by omega, by go_num, by rw [HF.out], hB⟩ | ((repeat apply Exists.intro); exact ⟨⟨k + 1, by omega, by go_num, by rw [HF.out], hB⟩, rfl⟩)
      case measure => simp [intOf]; omega
    · obtain rfl : k = n := by omega
      have hv := HV.out
      simp only [Prod.mk.injEq] at hv
      go_wp2
      go_ret2
      exact ⟨by rw [← hv.1, ← hv.2]; rfl, hbel⟩
end Go.Proofs.Ytbhiobmkgiokiaa
