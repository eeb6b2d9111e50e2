/- The contracts of SafeHumidity. -/
import Derived.Test.YtlpjjhjbejjddaaDry
import Derived.Test.YtlpjjhjbejjddaaFirst
namespace Go.Proofs.Ytlpjjhjbejjddaa
open Go.RowKit
attribute [local go_sem ↓] Go.wp_at_zero Go.wp_at_succ
set_option linter.unusedVariables false

theorem after_one (x0 : ByteArray) (x1 x2 x3 hu : Int) (w : World) (h1 : 0 ≤ x1) (h2 : x1 ≤ 1000) (h5 : 10 ≤ x2) (h6 : x2 ≤ 1000) (h7 : 0 ≤ hu) (h8 : hu ≤ 1000) :
    Calls Try.prog 81 #[.agg #[.string x0, .int .i64 x1, .int .i64 x2, .int .i64 x3], .int .i64 hu, .int .i64 1] w fun e w' => e = .returned (.int .i64 (x1 + chV x1 (evenV hu) x2)) ∧ Below w.heap.size w w' := after_any x0 x1 x2 x3 hu 1 w h1 h2 h5 h6 h7 h8 (by omega)

/-- What the function hands back. -/
def huRes (x0 : ByteArray) (x1 : Int) (x2 : Int) (x3 : Int) (mo : Int) : Int × Int := (if vStack x0 x1 x2 x3 = true then (if inB mo 0 1000 = true then firstP (fun j : Nat => decide (-(chV x1 (evenV j) x2) ≤ mo)) 1001 else (0, 2)) else (0, 1))

set_option maxHeartbeats 4000000 in
theorem implSafeHumidity_any (x0 : ByteArray) (x1 : Int) (x2 : Int) (x3 : Int) (mo : Int) (v1 v2 : Int) (w : World) (hs0 : x0.size ≤ maxLen) (hv : huRes x0 x1 x2 x3 mo = (v1, v2)) :
    Calls Try.prog 25 #[.agg #[.string x0, .int .i64 x1, .int .i64 x2, .int .i64 x3], .int .i64 mo] w fun e w' => e = .returned (.tuple #[.int .i64 v1, .int .i64 v2]) ∧ Below w.heap.size w w' := by
  by_cases e0 : vStack x0 x1 x2 x3 = true
  case neg =>
    obtain ⟨rfl, rfl⟩ : v1 = 0 ∧ v2 = 1 := by unfold huRes at hv; rw [if_neg e0] at hv; simpa [eq_comm] using hv
    have e0n : vStack x0 x1 x2 x3 = false := by simpa using e0
    clear hv e0
    go_enter Try.func25, Try.ntmps25
    go_wp2_with (first | (go_at_call 79; refine (validStack_any _ _ _ _ _ hs0).mono ?_; rintro e w' ⟨rfl, rfl⟩) | (go_at_call 120; refine (within_any _ _ _ _).mono ?_; rintro e w' ⟨rfl, rfl⟩) | (go_at_call 80; go_in))
    go_ret2
    exact ⟨rfl, by repeat (first | exact below_new _ _ | exact (below_new _ _).alloc (by simp) _)⟩
  by_cases e1 : inB mo 0 1000 = true
  case neg =>
    obtain ⟨rfl, rfl⟩ : v1 = 0 ∧ v2 = 2 := by unfold huRes at hv; rw [if_pos e0, if_neg e1] at hv; simpa [eq_comm] using hv
    have e1n : inB mo 0 1000 = false := by simpa using e1
    clear hv e1
    go_enter Try.func25, Try.ntmps25
    go_wp2_with (first | (go_at_call 79; refine (validStack_any _ _ _ _ _ hs0).mono ?_; rintro e w' ⟨rfl, rfl⟩) | (go_at_call 120; refine (within_any _ _ _ _).mono ?_; rintro e w' ⟨rfl, rfl⟩) | (go_at_call 80; go_in))
    go_ret2
    exact ⟨rfl, by repeat (first | exact below_new _ _ | exact (below_new _ _).alloc (by simp) _)⟩
  replace hv : firstP (fun j : Nat => decide (-(chV x1 (evenV j) x2) ≤ mo)) 1001 = (v1, v2) := by unfold huRes at hv; rw [if_pos e0, if_pos e1] at hv; exact hv
  have HV := Lib.hid hv
  clear hv
  obtain ⟨⟨b1, b2⟩, ⟨b5, b6⟩⟩ := stack_bd e0
  go_enter Try.func25, Try.ntmps25
  go_wp2_with (first | (go_at_call 79; refine (validStack_any _ _ _ _ _ hs0).mono ?_; rintro e w' ⟨rfl, rfl⟩) | (go_at_call 120; refine (within_any _ _ _ _).mono ?_; rintro e w' ⟨rfl, rfl⟩) | (go_at_call 80; go_in))
  go_loopw [6] (fun i wr => ∃ k : Nat, k ≤ 1001 ∧ i = .int .i64 k ∧ Hid (firstP (fun j : Nat => decide (-(chV x1 (evenV j) x2) ≤ mo)) k = (0, 3)) ∧ Below (w.alloc (.cells #[.string x0, .int .i64 x1, .int .i64 x2, .int .i64 x3] 37)).heap.size (w.alloc (.cells #[.string x0, .int .i64 x1, .int .i64 x2, .int .i64 x3] 37)) wr) (fun i _ => 1001 - (intOf i).toNat)
  case atStart => exact ⟨0, by omega, rfl, rfl, below_new _ _⟩
  case round =>
    obtain ⟨k, hk, rfl, hf, hbel⟩ := hrel
    have HB := Lib.hid hf
    clear hf
    have hlw : w.heap.size < wr.heap.size := Nat.lt_of_lt_of_le (by simp) hbel.size
    have z0 : wr.cell? ⟨w.heap.size, 0, none⟩ = some (.string x0) := (bcell hbel _ _ (by simp)).trans (by simp)
    have z1 : wr.cell? ⟨w.heap.size, 1, none⟩ = some (.int .i64 x1) := (bcell hbel _ _ (by simp)).trans (by simp)
    have z2 : wr.cell? ⟨w.heap.size, 2, none⟩ = some (.int .i64 x2) := (bcell hbel _ _ (by simp)).trans (by simp)
    have z3 : wr.cell? ⟨w.heap.size, 3, none⟩ = some (.int .i64 x3) := (bcell hbel _ _ (by simp)).trans (by simp)
    by_cases hlt : k < 1001
    · have hk1 : (k : Int) ≤ 1000 := by omega
      have hk0 : (0 : Int) ≤ (k : Int) := by omega
      obtain ⟨g1, g2⟩ := even_bd (k : Int)
      obtain ⟨⟨q1, q2⟩, ⟨q3, q4⟩⟩ := ch_bd b1 b2 g1 g2 b5 b6
      by_cases hp : -(chV x1 (evenV k) x2) ≤ mo
      · have hN := first_stay (first_yes (p := (fun j : Nat => decide (-(chV x1 (evenV j) x2) ≤ mo))) HB.out.out (by simpa using hp)) rfl 1001 (by omega)
        have hv := HV.out
        rw [hN] at hv
        simp only [Prod.mk.injEq] at hv
        have HVV := Lib.hid hv
        clear hv hN
        have hp2 : x1 - (x1 + chV x1 (evenV k) x2) ≤ mo := by omega
        go_wp2
        have y0 := Ext.cell (W := wr) (b := w.heap.size) (o := 0) (u := .string x0) z0 hlw
        have y1 := Ext.cell (W := wr) (b := w.heap.size) (o := 1) (u := .int .i64 x1) z1 hlw
        have y2 := Ext.cell (W := wr) (b := w.heap.size) (o := 2) (u := .int .i64 x2) z2 hlw
        have y3 := Ext.cell (W := wr) (b := w.heap.size) (o := 3) (u := .int .i64 x3) z3 hlw
        refine wp_region_ext (by kernel_rfl) (by kernel_rfl) ?_
        repeat (go_big_quiet_step ((go_at_call 81; exact ext_call (after_one _ _ _ _ _ _ b1 b2 b5 b6 hk0 hk1))))
        refine wpQuiet_nil ?_
        intro W1 hx
        obtain ⟨x, hx⟩ := hx
        have hW1 := x.h
        rw [← hx] at hW1
        clear hx x y0 y1 y2 y3
        have hB := hbel.trans (hW1.mono hbel.size)
        clear hW1 z0 z1 z2 z3
        go_wp2
        go_ret2
        exact ⟨by rw [← HVV.out.1, ← HVV.out.2]; rfl, (below_new w _).trans (hB.mono (by simp))⟩
      · have HN := Lib.hid (show Hid (firstP (fun j : Nat => decide (-(chV x1 (evenV j) x2) ≤ mo)) (k + 1) = (0, 3)) from first_no HB.out.out (by simpa using hp))
        have hpn : decide (-(chV x1 (evenV k) x2) ≤ mo) = false := by simpa using hp
        have hp2 : decide (x1 - (x1 + chV x1 (evenV k) x2) ≤ mo) = false := by simp; omega
        go_wp2
        have y0 := Ext.cell (W := wr) (b := w.heap.size) (o := 0) (u := .string x0) z0 hlw
        have y1 := Ext.cell (W := wr) (b := w.heap.size) (o := 1) (u := .int .i64 x1) z1 hlw
        have y2 := Ext.cell (W := wr) (b := w.heap.size) (o := 2) (u := .int .i64 x2) z2 hlw
        have y3 := Ext.cell (W := wr) (b := w.heap.size) (o := 3) (u := .int .i64 x3) z3 hlw
        refine wp_region_ext (by kernel_rfl) (by kernel_rfl) ?_
        repeat (go_big_quiet_step ((go_at_call 81; exact ext_call (after_one _ _ _ _ _ _ b1 b2 b5 b6 hk0 hk1))))
        refine wpQuiet_nil ?_
        intro W1 hx
        obtain ⟨x, hx⟩ := hx
        have hW1 := x.h
        rw [← hx] at hW1
        clear hx x y0 y1 y2 y3
        have hB := hbel.trans (hW1.mono hbel.size)
        clear hW1 z0 z1 z2 z3
        go_wp2
        go_roundw
        case rel => first | exact ⟨k + 1, by omega, by go_num, HN.out, hB⟩ | ((repeat apply Exists.intro); exact ⟨⟨k + 1, by omega, by go_num, HN.out, hB⟩, rfl⟩)
        case measure => simp [intOf]; omega
    · obtain rfl : k = 1001 := by omega
      have hv := HV.out
      rw [HB.out.out] at hv
      simp only [Prod.mk.injEq] at hv
      have HVV := Lib.hid hv
      clear hv z0 z1 z2 z3
      go_wp2
      go_ret2
      exact ⟨by rw [← HVV.out.1, ← HVV.out.2]; rfl, (below_new w _).trans (hbel.mono (by simp))⟩

set_option maxHeartbeats 4000000 in
theorem specSafeHumidity_any (x0 : ByteArray) (x1 : Int) (x2 : Int) (x3 : Int) (mo : Int) (v1 v2 : Int) (w : World) (hs0 : x0.size ≤ maxLen) (hv : huRes x0 x1 x2 x3 mo = (v1, v2)) :
    Calls Try.prog 23 #[.agg #[.string x0, .int .i64 x1, .int .i64 x2, .int .i64 x3], .int .i64 mo] w fun e w' => e = .returned (.tuple #[.int .i64 v1, .int .i64 v2]) ∧ Below w.heap.size w w' := by
  have Z0 := Lib.hid (show (w.alloc (.cells #[.string x0, .int .i64 x1, .int .i64 x2, .int .i64 x3] 37)).cell? ⟨w.heap.size, 0, none⟩ = some (.string x0) by simp)
  have Z1 := Lib.hid (show (w.alloc (.cells #[.string x0, .int .i64 x1, .int .i64 x2, .int .i64 x3] 37)).cell? ⟨w.heap.size, 0 + 1, none⟩ = some (.int .i64 x1) by simp)
  have Z2 := Lib.hid (show (w.alloc (.cells #[.string x0, .int .i64 x1, .int .i64 x2, .int .i64 x3] 37)).cell? ⟨w.heap.size, 0 + 2, none⟩ = some (.int .i64 x2) by simp)
  have Z3 := Lib.hid (show (w.alloc (.cells #[.string x0, .int .i64 x1, .int .i64 x2, .int .i64 x3] 37)).cell? ⟨w.heap.size, 0 + 3, none⟩ = some (.int .i64 x3) by simp)
  by_cases e0 : vStack x0 x1 x2 x3 = true
  case neg =>
    obtain ⟨rfl, rfl⟩ : v1 = 0 ∧ v2 = 1 := by unfold huRes at hv; rw [if_neg e0] at hv; simpa [eq_comm] using hv
    have e0n : vStack x0 x1 x2 x3 = false := by simpa using e0
    clear hv e0
    go_enter Try.func23, Try.ntmps23
    go_wp2_with (first | (go_at_call 75; refine (oneStack_any w.heap.size 0 x0 x1 x2 x3 _ hs0 Z0.out Z1.out Z2.out Z3.out).mono ?_; rintro e w' ⟨rfl, rfl⟩) | (go_at_call 124; refine (l00In_any _ _ _ _).mono ?_; rintro e w' ⟨rfl, rfl⟩) | (go_at_call 76; go_in))
    go_ret2
    exact ⟨rfl, by repeat (first | exact below_new _ _ | exact (below_new _ _).alloc (by simp) _)⟩
  by_cases e1 : inB mo 0 1000 = true
  case neg =>
    obtain ⟨rfl, rfl⟩ : v1 = 0 ∧ v2 = 2 := by unfold huRes at hv; rw [if_pos e0, if_neg e1] at hv; simpa [eq_comm] using hv
    have e1n : inB mo 0 1000 = false := by simpa using e1
    clear hv e1
    go_enter Try.func23, Try.ntmps23
    go_wp2_with (first | (go_at_call 75; refine (oneStack_any w.heap.size 0 x0 x1 x2 x3 _ hs0 Z0.out Z1.out Z2.out Z3.out).mono ?_; rintro e w' ⟨rfl, rfl⟩) | (go_at_call 124; refine (l00In_any _ _ _ _).mono ?_; rintro e w' ⟨rfl, rfl⟩) | (go_at_call 76; go_in))
    go_ret2
    exact ⟨rfl, by repeat (first | exact below_new _ _ | exact (below_new _ _).alloc (by simp) _)⟩
  replace hv : firstP (fun j : Nat => decide (-(chV x1 (evenV j) x2) ≤ mo)) 1001 = (v1, v2) := by unfold huRes at hv; rw [if_pos e0, if_pos e1] at hv; exact hv
  have HV := Lib.hid hv
  clear hv
  obtain ⟨⟨b1, b2⟩, ⟨b5, b6⟩⟩ := stack_bd e0
  go_enter Try.func23, Try.ntmps23
  go_wp2_with (first | (go_at_call 75; refine (oneStack_any w.heap.size 0 x0 x1 x2 x3 _ hs0 Z0.out Z1.out Z2.out Z3.out).mono ?_; rintro e w' ⟨rfl, rfl⟩) | (go_at_call 124; refine (l00In_any _ _ _ _).mono ?_; rintro e w' ⟨rfl, rfl⟩) | (go_at_call 76; go_in))
  go_loopw [6] (fun i wr => ∃ k : Nat, k ≤ 1001 ∧ i = .int .i64 k ∧ Hid (firstP (fun j : Nat => decide (-(chV x1 (evenV j) x2) ≤ mo)) k = (0, 3)) ∧ Below (w.alloc (.cells #[.string x0, .int .i64 x1, .int .i64 x2, .int .i64 x3] 37)).heap.size (w.alloc (.cells #[.string x0, .int .i64 x1, .int .i64 x2, .int .i64 x3] 37)) wr) (fun i _ => 1001 - (intOf i).toNat)
  case atStart => exact ⟨0, by omega, rfl, rfl, Below.refl _ _⟩
  case round =>
    obtain ⟨k, hk, rfl, hf, hbel⟩ := hrel
    have HB := Lib.hid hf
    clear hf
    have hlw : w.heap.size < wr.heap.size := Nat.lt_of_lt_of_le (by simp) hbel.size
    have z0 : wr.cell? ⟨w.heap.size, 0, none⟩ = some (.string x0) := (bcell hbel _ _ (by simp)).trans (by simp)
    have z1 : wr.cell? ⟨w.heap.size, 1, none⟩ = some (.int .i64 x1) := (bcell hbel _ _ (by simp)).trans (by simp)
    have z2 : wr.cell? ⟨w.heap.size, 2, none⟩ = some (.int .i64 x2) := (bcell hbel _ _ (by simp)).trans (by simp)
    have z3 : wr.cell? ⟨w.heap.size, 3, none⟩ = some (.int .i64 x3) := (bcell hbel _ _ (by simp)).trans (by simp)
    by_cases hlt : k < 1001
    · have hk1 : (k : Int) ≤ 1000 := by omega
      have hk0 : (0 : Int) ≤ (k : Int) := by omega
      obtain ⟨g1, g2⟩ := even_bd (k : Int)
      obtain ⟨⟨q1, q2⟩, ⟨q3, q4⟩⟩ := ch_bd b1 b2 g1 g2 b5 b6
      by_cases hp : -(chV x1 (evenV k) x2) ≤ mo
      · have hN := first_stay (first_yes (p := (fun j : Nat => decide (-(chV x1 (evenV j) x2) ≤ mo))) HB.out.out (by simpa using hp)) rfl 1001 (by omega)
        have hv := HV.out
        rw [hN] at hv
        simp only [Prod.mk.injEq] at hv
        have HVV := Lib.hid hv
        clear hv hN
        have hp2 : x1 - (x1 + chV x1 (evenV k) x2) ≤ mo := by omega
        go_wp2
        have y1 := Ext.cell (W := wr) (b := w.heap.size) (o := 1) (u := .int .i64 x1) z1 hlw
        have y2 := Ext.cell (W := wr) (b := w.heap.size) (o := 2) (u := .int .i64 x2) z2 hlw
        refine wp_region_ext (by kernel_rfl) (by kernel_rfl) ?_
        repeat (go_big_quiet_step ((first | (go_at_call 78; exact ext_call (l04Even_any _ _ hk0 hk1)) | (go_at_call 77; exact ext_same (l04Change_any _ _ _ _ b1 b2 g1 g2 b5 b6)))))
        refine wpQuiet_nil ?_
        intro W1 hx
        obtain ⟨x, hx⟩ := hx
        have hW1 := x.h
        rw [← hx] at hW1
        clear hx x y1 y2
        have hB := hbel.trans (hW1.mono hbel.size)
        clear hW1 z0 z1 z2 z3
        go_wp2
        go_ret2
        exact ⟨by rw [← HVV.out.1, ← HVV.out.2]; rfl, (below_new w _).trans (hB.mono (by simp))⟩
      · have HN := Lib.hid (show Hid (firstP (fun j : Nat => decide (-(chV x1 (evenV j) x2) ≤ mo)) (k + 1) = (0, 3)) from first_no HB.out.out (by simpa using hp))
        have hpn : decide (-(chV x1 (evenV k) x2) ≤ mo) = false := by simpa using hp
        have hp2 : decide (x1 - (x1 + chV x1 (evenV k) x2) ≤ mo) = false := by simp; omega
        go_wp2
        have y1 := Ext.cell (W := wr) (b := w.heap.size) (o := 1) (u := .int .i64 x1) z1 hlw
        have y2 := Ext.cell (W := wr) (b := w.heap.size) (o := 2) (u := .int .i64 x2) z2 hlw
        refine wp_region_ext (by kernel_rfl) (by kernel_rfl) ?_
        repeat (go_big_quiet_step ((first | (go_at_call 78; exact ext_call (l04Even_any _ _ hk0 hk1)) | (go_at_call 77; exact ext_same (l04Change_any _ _ _ _ b1 b2 g1 g2 b5 b6)))))
        refine wpQuiet_nil ?_
        intro W1 hx
        obtain ⟨x, hx⟩ := hx
        have hW1 := x.h
        rw [← hx] at hW1
        clear hx x y1 y2
        have hB := hbel.trans (hW1.mono hbel.size)
        clear hW1 z0 z1 z2 z3
        go_wp2
        go_roundw
        case rel => first | exact ⟨k + 1, by omega, by go_num, HN.out, hB⟩ | ((repeat apply Exists.intro); exact ⟨⟨k + 1, by omega, by go_num, HN.out, hB⟩, rfl⟩)
        case measure => simp [intOf]; omega
    · obtain rfl : k = 1001 := by omega
      have hv := HV.out
      rw [HB.out.out] at hv
      simp only [Prod.mk.injEq] at hv
      have HVV := Lib.hid hv
      clear hv z0 z1 z2 z3
      go_wp2
      go_ret2
      exact ⟨by rw [← HVV.out.1, ← HVV.out.2]; rfl, (below_new w _).trans (hbel.mono (by simp))⟩
end Go.Proofs.Ytlpjjhjbejjddaa
