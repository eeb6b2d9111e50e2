/- The contracts of DaysToDry. -/
import Derived.Test.YtlpjjhjbejjddaaDry
import Derived.Test.YtlpjjhjbejjddaaFirst
namespace Go.Proofs.Ytlpjjhjbejjddaa
open Go.RowKit
attribute [local go_sem ↓] Go.wp_at_zero Go.wp_at_succ
set_option linter.unusedVariables false

theorem after_one (x0 : ByteArray) (x1 x2 x3 hu : Int) (w : World) (h1 : 0 ≤ x1) (h2 : x1 ≤ 1000) (h5 : 10 ≤ x2) (h6 : x2 ≤ 1000) (h7 : 0 ≤ hu) (h8 : hu ≤ 1000) :
    Calls Try.prog 81 #[.agg #[.string x0, .int .i64 x1, .int .i64 x2, .int .i64 x3], .int .i64 hu, .int .i64 1] w fun e w' => e = .returned (.int .i64 (x1 + chV x1 (evenV hu) x2)) ∧ Below w.heap.size w w' := after_any x0 x1 x2 x3 hu 1 w h1 h2 h5 h6 h7 h8 (by omega)

theorem box_new (x0 : ByteArray) (y x2 x3 : Int) (w : World) : (w.alloc (.cells #[.string x0, .int .i64 y, .int .i64 x2, .int .i64 x3] 37)).rowIs w.heap.size 37 4 (rowStack (fun _ => x0) (fun _ => y) (fun _ => x2) (fun _ => x3) 0) :=
  World.rowIs_alloc w #[.string x0, .int .i64 y, .int .i64 x2, .int .i64 x3] 37 _ (fun i hi => by
    match i, hi with
    | 0, _ => rfl
    | 1, _ => rfl
    | 2, _ => rfl
    | 3, _ => rfl)

theorem box_put {x0 : ByteArray} {y x2 x3 : Int} {w : World} {b : Nat} (z : Int) (h : w.rowIs b 37 4 (rowStack (fun _ => x0) (fun _ => y) (fun _ => x2) (fun _ => x3) 0)) : (w.setCell ⟨b, 1, none⟩ (.int .i64 z)).rowIs b 37 4 (rowStack (fun _ => x0) (fun _ => z) (fun _ => x2) (fun _ => x3) 0) :=
  (h.set 1 (.int .i64 z)).congr (fun i hi => by
    match i, hi with
    | 0, _ => rfl
    | 1, _ => rfl
    | 2, _ => rfl
    | 3, _ => rfl)

theorem box_cells {x0 : ByteArray} {y x2 x3 : Int} {w : World} {b : Nat} (h : w.rowIs b 37 4 (rowStack (fun _ => x0) (fun _ => y) (fun _ => x2) (fun _ => x3) 0)) : w.cell? ⟨b, 0, none⟩ = some (.string x0) ∧ w.cell? ⟨b, 1, none⟩ = some (.int .i64 y) ∧ w.cell? ⟨b, 2, none⟩ = some (.int .i64 x2) ∧ w.cell? ⟨b, 3, none⟩ = some (.int .i64 x3) :=
  ⟨h.cell (i := 0) (by omega), h.cell (i := 1) (by omega), h.cell (i := 2) (by omega), h.cell (i := 3) (by omega)⟩

/-- What the function hands back. -/
def daRes (x0 : ByteArray) (x1 : Int) (x2 : Int) (x3 : Int) (hu go : Int) : Int × Int := (if vStack x0 x1 x2 x3 = true then (if inB hu 0 1000 = true then (if inB go 0 1000 = true then firstP (fun j : Nat => decide (moist x1 (evenV hu) x2 j ≤ go)) 4001 else (0, 2)) else (0, 2)) else (0, 1))

set_option maxHeartbeats 4000000 in
theorem implDaysToDry_any (x0 : ByteArray) (x1 : Int) (x2 : Int) (x3 : Int) (hu go : Int) (v1 v2 : Int) (w : World) (hs0 : x0.size ≤ maxLen) (hv : daRes x0 x1 x2 x3 hu go = (v1, v2)) :
    Calls Try.prog 29 #[.agg #[.string x0, .int .i64 x1, .int .i64 x2, .int .i64 x3], .int .i64 hu, .int .i64 go] w fun e w' => e = .returned (.tuple #[.int .i64 v1, .int .i64 v2]) ∧ Below w.heap.size w w' := by
  by_cases e0 : vStack x0 x1 x2 x3 = true
  case neg =>
    obtain ⟨rfl, rfl⟩ : v1 = 0 ∧ v2 = 1 := by unfold daRes at hv; rw [if_neg e0] at hv; simpa [eq_comm] using hv
    have e0n : vStack x0 x1 x2 x3 = false := by simpa using e0
    clear hv e0
    go_enter Try.func29, Try.ntmps29
    go_wp2_with (first | (go_at_call 79; refine (validStack_any _ _ _ _ _ hs0).mono ?_; rintro e w' ⟨rfl, rfl⟩) | (go_at_call 120; refine (within_any _ _ _ _).mono ?_; rintro e w' ⟨rfl, rfl⟩) | (go_at_call 80; go_in))
    go_ret2
    exact ⟨rfl, by repeat (first | exact below_new _ _ | exact (below_new _ _).alloc (by simp) _)⟩
  by_cases e1 : inB hu 0 1000 = true
  case neg =>
    obtain ⟨rfl, rfl⟩ : v1 = 0 ∧ v2 = 2 := by unfold daRes at hv; rw [if_pos e0, if_neg e1] at hv; simpa [eq_comm] using hv
    have e1n : inB hu 0 1000 = false := by simpa using e1
    clear hv e1
    go_enter Try.func29, Try.ntmps29
    go_wp2_with (first | (go_at_call 79; refine (validStack_any _ _ _ _ _ hs0).mono ?_; rintro e w' ⟨rfl, rfl⟩) | (go_at_call 120; refine (within_any _ _ _ _).mono ?_; rintro e w' ⟨rfl, rfl⟩) | (go_at_call 80; go_in))
    go_ret2
    exact ⟨rfl, by repeat (first | exact below_new _ _ | exact (below_new _ _).alloc (by simp) _)⟩
  by_cases e2 : inB go 0 1000 = true
  case neg =>
    obtain ⟨rfl, rfl⟩ : v1 = 0 ∧ v2 = 2 := by unfold daRes at hv; rw [if_pos e0, if_pos e1, if_neg e2] at hv; simpa [eq_comm] using hv
    have e2n : inB go 0 1000 = false := by simpa using e2
    clear hv e2
    go_enter Try.func29, Try.ntmps29
    go_wp2_with (first | (go_at_call 79; refine (validStack_any _ _ _ _ _ hs0).mono ?_; rintro e w' ⟨rfl, rfl⟩) | (go_at_call 120; refine (within_any _ _ _ _).mono ?_; rintro e w' ⟨rfl, rfl⟩) | (go_at_call 80; go_in))
    go_ret2
    exact ⟨rfl, by repeat (first | exact below_new _ _ | exact (below_new _ _).alloc (by simp) _)⟩
  replace hv : firstP (fun j : Nat => decide (moist x1 (evenV hu) x2 j ≤ go)) 4001 = (v1, v2) := by unfold daRes at hv; rw [if_pos e0, if_pos e1, if_pos e2] at hv; exact hv
  have HV := Lib.hid hv
  clear hv
  obtain ⟨⟨b1, b2⟩, ⟨b5, b6⟩⟩ := stack_bd e0
  obtain ⟨c1, c2⟩ := inB_true e1
  obtain ⟨g1, g2⟩ := even_bd hu
  go_enter Try.func29, Try.ntmps29
  go_wp2_with (first | (go_at_call 79; refine (validStack_any _ _ _ _ _ hs0).mono ?_; rintro e w' ⟨rfl, rfl⟩) | (go_at_call 120; refine (within_any _ _ _ _).mono ?_; rintro e w' ⟨rfl, rfl⟩) | (go_at_call 80; go_in))
  go_loopw [8] (fun i wr => ∃ k : Nat, k ≤ 4001 ∧ i = .int .i64 k ∧ Hid (firstP (fun j : Nat => decide (moist x1 (evenV hu) x2 j ≤ go)) k = (0, 3)) ∧ wr.rowIs w.heap.size 37 4 (rowStack (fun _ => x0) (fun _ => moist x1 (evenV hu) x2 k) (fun _ => x2) (fun _ => x3) 0) ∧ Below w.heap.size w wr) (fun i _ => 4001 - (intOf i).toNat)
  case atStart => exact ⟨0, by omega, rfl, rfl, (box_new x0 x1 x2 x3 w).alloc _, (below_new w _).alloc (by simp) _⟩
  case round =>
    obtain ⟨k, hk, rfl, hf, hr, hbel⟩ := hrel
    have HB := Lib.hid hf
    clear hf
    obtain ⟨z0, z1, z2, z3⟩ := box_cells hr
    obtain ⟨m1, m2⟩ := moist_bd b1 b2 g1 g2 b5 b6 k
    have HR := Lib.hid hr
    clear hr
    by_cases hlt : k < 4001
    · have hk1 : (k : Int) ≤ 4000 := by omega
      by_cases hp : moist x1 (evenV hu) x2 k ≤ go
      · have hN := first_stay (first_yes (p := (fun j : Nat => decide (moist x1 (evenV hu) x2 j ≤ go))) HB.out.out (by simpa using hp)) rfl 4001 (by omega)
        have hv := HV.out
        rw [hN] at hv
        simp only [Prod.mk.injEq] at hv
        have HVV := Lib.hid hv
        clear hv hN
        go_wp2
        go_ret2
        exact ⟨by rw [← HVV.out.1, ← HVV.out.2]; rfl, hbel⟩
      · have HN := Lib.hid (show Hid (firstP (fun j : Nat => decide (moist x1 (evenV hu) x2 j ≤ go)) (k + 1) = (0, 3)) from first_no HB.out.out (by simpa using hp))
        have hpn : decide (moist x1 (evenV hu) x2 k ≤ go) = false := by simpa using hp
        have HM := Lib.hid (moist_succ x1 (evenV hu) x2 k)
        go_wp2_with fail
        refine (after_one _ _ _ _ _ _ m1 m2 b5 b6 c1 c2).mono ?_
        rintro e w2 ⟨rfl, hb2⟩
        have hr2 := row_below HR.out hb2 HR.out.lt
        have hB := hbel.trans (hb2.mono hbel.size)
        clear z0 z1 z2 z3 hb2 HR
        obtain ⟨_, z1, _, _⟩ := box_cells hr2
        have f1 := hr2.frozen 1
        have HR := Lib.hid hr2
        clear hr2
        go_wp2
        go_roundw
        case rel => first | exact ⟨k + 1, by omega, by go_num, HN.out, by rw [HM.out]; exact box_put _ HR.out, hB.setCell (by simp) _⟩ | ((repeat apply Exists.intro); exact ⟨⟨k + 1, by omega, by go_num, HN.out, by rw [HM.out]; exact box_put _ HR.out, hB.setCell (by simp) _⟩, rfl⟩)
        case measure => simp [intOf]; omega
    · obtain rfl : k = 4001 := by omega
      have hv := HV.out
      rw [HB.out.out] at hv
      simp only [Prod.mk.injEq] at hv
      have HVV := Lib.hid hv
      clear hv z0 z1 z2 z3
      go_wp2
      go_ret2
      exact ⟨by rw [← HVV.out.1, ← HVV.out.2]; rfl, hbel⟩

set_option maxHeartbeats 4000000 in
theorem specDaysToDry_any (x0 : ByteArray) (x1 : Int) (x2 : Int) (x3 : Int) (hu go : Int) (v1 v2 : Int) (w : World) (hs0 : x0.size ≤ maxLen) (hv : daRes x0 x1 x2 x3 hu go = (v1, v2)) :
    Calls Try.prog 28 #[.agg #[.string x0, .int .i64 x1, .int .i64 x2, .int .i64 x3], .int .i64 hu, .int .i64 go] w fun e w' => e = .returned (.tuple #[.int .i64 v1, .int .i64 v2]) ∧ Below w.heap.size w w' := by
  have Z0 := Lib.hid (show (w.alloc (.cells #[.string x0, .int .i64 x1, .int .i64 x2, .int .i64 x3] 37)).cell? ⟨w.heap.size, 0, none⟩ = some (.string x0) by simp)
  have Z1 := Lib.hid (show (w.alloc (.cells #[.string x0, .int .i64 x1, .int .i64 x2, .int .i64 x3] 37)).cell? ⟨w.heap.size, 0 + 1, none⟩ = some (.int .i64 x1) by simp)
  have Z2 := Lib.hid (show (w.alloc (.cells #[.string x0, .int .i64 x1, .int .i64 x2, .int .i64 x3] 37)).cell? ⟨w.heap.size, 0 + 2, none⟩ = some (.int .i64 x2) by simp)
  have Z3 := Lib.hid (show (w.alloc (.cells #[.string x0, .int .i64 x1, .int .i64 x2, .int .i64 x3] 37)).cell? ⟨w.heap.size, 0 + 3, none⟩ = some (.int .i64 x3) by simp)
  by_cases e0 : vStack x0 x1 x2 x3 = true
  case neg =>
    obtain ⟨rfl, rfl⟩ : v1 = 0 ∧ v2 = 1 := by unfold daRes at hv; rw [if_neg e0] at hv; simpa [eq_comm] using hv
    have e0n : vStack x0 x1 x2 x3 = false := by simpa using e0
    clear hv e0
    go_enter Try.func28, Try.ntmps28
    go_wp2_with (first | (go_at_call 75; refine (oneStack_any w.heap.size 0 x0 x1 x2 x3 _ hs0 Z0.out Z1.out Z2.out Z3.out).mono ?_; rintro e w' ⟨rfl, rfl⟩) | (go_at_call 124; refine (l00In_any _ _ _ _).mono ?_; rintro e w' ⟨rfl, rfl⟩) | (go_at_call 76; go_in))
    go_ret2
    exact ⟨rfl, by repeat (first | exact below_new _ _ | exact (below_new _ _).alloc (by simp) _)⟩
  by_cases e1 : inB hu 0 1000 = true
  case neg =>
    obtain ⟨rfl, rfl⟩ : v1 = 0 ∧ v2 = 2 := by unfold daRes at hv; rw [if_pos e0, if_neg e1] at hv; simpa [eq_comm] using hv
    have e1n : inB hu 0 1000 = false := by simpa using e1
    clear hv e1
    go_enter Try.func28, Try.ntmps28
    go_wp2_with (first | (go_at_call 75; refine (oneStack_any w.heap.size 0 x0 x1 x2 x3 _ hs0 Z0.out Z1.out Z2.out Z3.out).mono ?_; rintro e w' ⟨rfl, rfl⟩) | (go_at_call 124; refine (l00In_any _ _ _ _).mono ?_; rintro e w' ⟨rfl, rfl⟩) | (go_at_call 76; go_in))
    go_ret2
    exact ⟨rfl, by repeat (first | exact below_new _ _ | exact (below_new _ _).alloc (by simp) _)⟩
  by_cases e2 : inB go 0 1000 = true
  case neg =>
    obtain ⟨rfl, rfl⟩ : v1 = 0 ∧ v2 = 2 := by unfold daRes at hv; rw [if_pos e0, if_pos e1, if_neg e2] at hv; simpa [eq_comm] using hv
    have e2n : inB go 0 1000 = false := by simpa using e2
    clear hv e2
    go_enter Try.func28, Try.ntmps28
    go_wp2_with (first | (go_at_call 75; refine (oneStack_any w.heap.size 0 x0 x1 x2 x3 _ hs0 Z0.out Z1.out Z2.out Z3.out).mono ?_; rintro e w' ⟨rfl, rfl⟩) | (go_at_call 124; refine (l00In_any _ _ _ _).mono ?_; rintro e w' ⟨rfl, rfl⟩) | (go_at_call 76; go_in))
    go_ret2
    exact ⟨rfl, by repeat (first | exact below_new _ _ | exact (below_new _ _).alloc (by simp) _)⟩
  replace hv : firstP (fun j : Nat => decide (moist x1 (evenV hu) x2 j ≤ go)) 4001 = (v1, v2) := by unfold daRes at hv; rw [if_pos e0, if_pos e1, if_pos e2] at hv; exact hv
  have HV := Lib.hid hv
  clear hv
  obtain ⟨⟨b1, b2⟩, ⟨b5, b6⟩⟩ := stack_bd e0
  obtain ⟨c1, c2⟩ := inB_true e1
  obtain ⟨g1, g2⟩ := even_bd hu
  go_enter Try.func28, Try.ntmps28
  go_wp2_with (first | (go_at_call 75; refine (oneStack_any w.heap.size 0 x0 x1 x2 x3 _ hs0 Z0.out Z1.out Z2.out Z3.out).mono ?_; rintro e w' ⟨rfl, rfl⟩) | (go_at_call 124; refine (l00In_any _ _ _ _).mono ?_; rintro e w' ⟨rfl, rfl⟩) | (go_at_call 76; go_in))
  go_loopw [8, 9] (fun v i wr => ∃ k : Nat, k ≤ 4001 ∧ i = .int .i64 k ∧ v = .int .i64 (moist x1 (evenV hu) x2 k) ∧ Hid (firstP (fun j : Nat => decide (moist x1 (evenV hu) x2 j ≤ go)) k = (0, 3)) ∧ Below (w.alloc (.cells #[.string x0, .int .i64 x1, .int .i64 x2, .int .i64 x3] 37)).heap.size (w.alloc (.cells #[.string x0, .int .i64 x1, .int .i64 x2, .int .i64 x3] 37)) wr) (fun _ i _ => 4001 - (intOf i).toNat)
  case atStart => exact ⟨0, by omega, rfl, rfl, rfl, Below.refl _ _⟩
  case round =>
    obtain ⟨k, hk, rfl, rfl, hf, hbel⟩ := hrel
    have HB := Lib.hid hf
    clear hf
    have hlw : w.heap.size < wr.heap.size := Nat.lt_of_lt_of_le (by simp) hbel.size
    have z0 : wr.cell? ⟨w.heap.size, 0, none⟩ = some (.string x0) := (bcell hbel _ _ (by simp)).trans (by simp)
    have z1 : wr.cell? ⟨w.heap.size, 1, none⟩ = some (.int .i64 x1) := (bcell hbel _ _ (by simp)).trans (by simp)
    have z2 : wr.cell? ⟨w.heap.size, 2, none⟩ = some (.int .i64 x2) := (bcell hbel _ _ (by simp)).trans (by simp)
    have z3 : wr.cell? ⟨w.heap.size, 3, none⟩ = some (.int .i64 x3) := (bcell hbel _ _ (by simp)).trans (by simp)
    obtain ⟨m1, m2⟩ := moist_bd b1 b2 g1 g2 b5 b6 k
    by_cases hlt : k < 4001
    · have hk1 : (k : Int) ≤ 4000 := by omega
      obtain ⟨⟨q1, q2⟩, ⟨q3, q4⟩⟩ := ch_bd m1 m2 g1 g2 b5 b6
      by_cases hp : moist x1 (evenV hu) x2 k ≤ go
      · have hN := first_stay (first_yes (p := (fun j : Nat => decide (moist x1 (evenV hu) x2 j ≤ go))) HB.out.out (by simpa using hp)) rfl 4001 (by omega)
        have hv := HV.out
        rw [hN] at hv
        simp only [Prod.mk.injEq] at hv
        have HVV := Lib.hid hv
        clear hv hN
        go_wp2
        go_ret2
        exact ⟨by rw [← HVV.out.1, ← HVV.out.2]; rfl, (below_new w _).trans (hbel.mono (by simp))⟩
      · have HN := Lib.hid (show Hid (firstP (fun j : Nat => decide (moist x1 (evenV hu) x2 j ≤ go)) (k + 1) = (0, 3)) from first_no HB.out.out (by simpa using hp))
        have hpn : decide (moist x1 (evenV hu) x2 k ≤ go) = false := by simpa using hp
        have HM := Lib.hid (moist_succ x1 (evenV hu) x2 k)
        go_wp2
        have y2 := Ext.cell (W := wr) (b := w.heap.size) (o := 2) (u := .int .i64 x2) z2 hlw
        refine wp_region_ext (by kernel_rfl) (by kernel_rfl) ?_
        repeat (go_big_quiet_step ((first | (go_at_call 78; exact ext_call (l04Even_any _ _ c1 c2)) | (go_at_call 77; exact ext_same (l04Change_any _ _ _ _ m1 m2 g1 g2 b5 b6)))))
        refine wpQuiet_nil ?_
        intro W1 hx
        obtain ⟨x, hx⟩ := hx
        have hW1 := x.h
        rw [← hx] at hW1
        clear hx x y2
        have hB := hbel.trans (hW1.mono hbel.size)
        clear hW1 z0 z1 z2 z3
        go_wp2
        go_roundw
        case rel => first | exact ⟨k + 1, by omega, by go_num, by rw [HM.out], HN.out, hB⟩ | ((repeat apply Exists.intro); exact ⟨⟨k + 1, by omega, by go_num, by rw [HM.out], HN.out, hB⟩, rfl⟩)
        case measure => simp [intOf]; omega
    · obtain rfl : k = 4001 := by omega
      have hv := HV.out
      rw [HB.out.out] at hv
      simp only [Prod.mk.injEq] at hv
      have HVV := Lib.hid hv
      clear hv z0 z1 z2 z3
      go_wp2
      go_ret2
      exact ⟨by rw [← HVV.out.1, ← HVV.out.2]; rfl, (below_new w _).trans (hbel.mono (by simp))⟩
end Go.Proofs.Ytlpjjhjbejjddaa
