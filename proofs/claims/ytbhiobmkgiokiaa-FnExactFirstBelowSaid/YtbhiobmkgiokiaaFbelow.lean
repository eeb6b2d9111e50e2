/- The contracts of FirstBelow. -/
import Derived.Test.YtbhiobmkgiokiaaEntryV
import Derived.Test.YtbhiobmkgiokiaaSums
import Derived.Test.YtbhiobmkgiokiaaMore
namespace Go.Proofs.Ytbhiobmkgiokiaa
open Go.RowKit
attribute [local go_sem ↓] Go.wp_at_zero Go.wp_at_succ
set_option linter.unusedVariables false

/-- What an entry changes in an account. -/
def chg (x1 x2 : ByteArray) (x3 : Int) (s : ByteArray) : Int := if (x1.toList == s.toList) = true then x3 else if (x2.toList == s.toList) = true then wrap64 (-x3) else 0

set_option maxHeartbeats 1000000 in
theorem change_any  (x0 : Int) (x1 : ByteArray) (x2 : ByteArray) (x3 : Int) (s : ByteArray) (w : World)  :
    Calls Try.prog 115 #[.agg #[.int .i64 x0, .string x1, .string x2, .int .i64 x3], .string s] w fun e w' => e = .returned (.int .i64 (chg x1 x2 x3 s)) ∧ w.alloc (.cells #[.int .i64 x0, .string x1, .string x2, .int .i64 x3] 80) = w' := by
  by_cases e1 : (x1.toList == s.toList) = true
  · have HF := Lib.hid (show chg x1 x2 x3 s = x3 by unfold chg; rw [if_pos e1])
    have q1 : x1.toList = s.toList := by simpa using e1
    have q2 : s.toList = x1.toList := q1.symm
    have q3 : (s.toList == x1.toList) = true := by simpa using q2
    clear q1 q2
    go_enter Try.func115, Try.ntmps115
    go_wp2
    go_ret
    exact ⟨by rw [HF.out]; rfl, rfl⟩
  · have e1n : (x1.toList == s.toList) = false := by simpa using e1
    have q3 : (s.toList == x1.toList) = false := by rw [beq_eq_false_iff_ne] at e1n ⊢; exact fun h => e1n h.symm
    by_cases e2 : (x2.toList == s.toList) = true
    · have HF := Lib.hid (show chg x1 x2 x3 s = wrap64 (-x3) by unfold chg; rw [if_neg e1, if_pos e2])
      have q1 : x2.toList = s.toList := by simpa using e2
      have q4 : (s.toList == x2.toList) = true := by simpa using q1.symm
      clear q1 e1
      go_enter Try.func115, Try.ntmps115
      go_wp2
      go_ret
      exact ⟨by rw [HF.out]; rfl, rfl⟩
    · have e2n : (x2.toList == s.toList) = false := by simpa using e2
      have q4 : (s.toList == x2.toList) = false := by rw [beq_eq_false_iff_ne] at e2n ⊢; exact fun h => e2n h.symm
      have HF := Lib.hid (show chg x1 x2 x3 s = 0 by unfold chg; rw [if_neg e1, if_neg e2])
      clear e1 e2
      go_enter Try.func115, Try.ntmps115
      go_wp2
      go_ret
      exact ⟨by rw [HF.out]; rfl, rfl⟩

set_option maxHeartbeats 1000000 in
theorem l25Change_any (b o : Nat) (x0 : Int) (x1 : ByteArray) (x2 : ByteArray) (x3 : Int) (s : ByteArray) (w : World) (h0 : w.cell? ⟨b, o, none⟩ = some (.int .i64 x0)) (h1 : w.cell? ⟨b, o + 1, none⟩ = some (.string x1)) (h2 : w.cell? ⟨b, o + 2, none⟩ = some (.string x2)) (h3 : w.cell? ⟨b, o + 3, none⟩ = some (.int .i64 x3)) :
    Calls Try.prog 114 #[.pointer (some ⟨b, o, none⟩), .string s] w fun e w' => e = .returned (.int .i64 (chg x1 x2 x3 s)) ∧ w = w' := by
  by_cases e1 : (x1.toList == s.toList) = true
  · have HF := Lib.hid (show chg x1 x2 x3 s = x3 by unfold chg; rw [if_pos e1])
    have q1 : x1.toList = s.toList := by simpa using e1
    have q2 : s.toList = x1.toList := q1.symm
    have q3 : (s.toList == x1.toList) = true := by simpa using q2
    clear q1 q2
    go_enter Try.func114, Try.ntmps114
    go_wp2
    go_ret
    exact ⟨by rw [HF.out]; rfl, rfl⟩
  · have e1n : (x1.toList == s.toList) = false := by simpa using e1
    have q3 : (s.toList == x1.toList) = false := by rw [beq_eq_false_iff_ne] at e1n ⊢; exact fun h => e1n h.symm
    by_cases e2 : (x2.toList == s.toList) = true
    · have HF := Lib.hid (show chg x1 x2 x3 s = wrap64 (-x3) by unfold chg; rw [if_neg e1, if_pos e2])
      have q1 : x2.toList = s.toList := by simpa using e2
      have q4 : (s.toList == x2.toList) = true := by simpa using q1.symm
      clear q1 e1
      go_enter Try.func114, Try.ntmps114
      go_wp2
      go_ret
      exact ⟨by rw [HF.out]; rfl, rfl⟩
    · have e2n : (x2.toList == s.toList) = false := by simpa using e2
      have q4 : (s.toList == x2.toList) = false := by rw [beq_eq_false_iff_ne] at e2n ⊢; exact fun h => e2n h.symm
      have HF := Lib.hid (show chg x1 x2 x3 s = 0 by unfold chg; rw [if_neg e1, if_neg e2])
      clear e1 e2
      go_enter Try.func114, Try.ntmps114
      go_wp2
      go_ret
      exact ⟨by rw [HF.out]; rfl, rfl⟩

set_option maxHeartbeats 2000000 in
theorem l25Ask_any (g n : Nat) (F0 : Nat → Int) (F1 : Nat → ByteArray) (F2 : Nat → ByteArray) (F3 : Nat → Int) (s : ByteArray) (v : Int) (w : World) (t1 : TypeId) (hn : n ≤ 1048576) (h1 : w.rowIs g t1 (n * 4) (flat 4 (rowEntry F0 F1 F2 F3))) (hS1 : ∀ i, i < n → (F1 i).size ≤ maxLen) (hS2 : ∀ i, i < n → (F2 i).size ≤ maxLen) (hs : s.size ≤ maxLen) (hv : (if (listEntry n F0 F1 F2 F3 && nameB s) = true then 0 else 1) = v) :
    Calls Try.prog 113 #[.slice (some ⟨g, 0, none⟩) n n, .string s] w fun e w' => e = .returned (.int .i64 v) ∧ Below w.heap.size w w' := by
  have hl1 := h1.lt
  have HR1 := Lib.hid (RdEntry.of_row h1)
  have H1 := Lib.hid h1
  have HS1 := Lib.hid hS1
  have HS2 := Lib.hid hS2
  clear h1 hS1 hS2
  by_cases e1 : listEntry n F0 F1 F2 F3 = true
  · by_cases e2 : nameB s = true
    · obtain rfl : v = 0 := by rw [← hv]; simp [e1, e2]
      clear hv
      go_enter Try.func113, Try.ntmps113
      go_wp2_with fail
      refine (OkEntry_any _ _ F0 F1 F2 F3 _ _ hn H1.out HS1.out HS2.out).mono ?_
      rintro e w1 ⟨rfl, hb1⟩
      go_wp2_with (go_at_call 108; refine (l01Name_any _ _ hs).mono ?_; rintro e w' ⟨rfl, rfl⟩)
      go_ret
      exact ⟨rfl, hb1⟩
    · have e2n : nameB s = false := by simpa using e2
      clear e2
      obtain rfl : v = 1 := by rw [← hv]; simp [e1, e2n]
      clear hv
      go_enter Try.func113, Try.ntmps113
      go_wp2_with fail
      refine (OkEntry_any _ _ F0 F1 F2 F3 _ _ hn H1.out HS1.out HS2.out).mono ?_
      rintro e w1 ⟨rfl, hb1⟩
      go_wp2_with (go_at_call 108; refine (l01Name_any _ _ hs).mono ?_; rintro e w' ⟨rfl, rfl⟩)
      go_ret
      exact ⟨rfl, hb1⟩
  · have e1n : listEntry n F0 F1 F2 F3 = false := by simpa using e1
    clear e1
    obtain rfl : v = 1 := by rw [← hv]; simp [e1n]
    clear hv
    go_enter Try.func113, Try.ntmps113
    go_wp2_with fail
    refine (OkEntry_any _ _ F0 F1 F2 F3 _ _ hn H1.out HS1.out HS2.out).mono ?_
    rintro e w1 ⟨rfl, hb1⟩
    go_wp2_with (go_at_call 108; refine (l01Name_any _ _ hs).mono ?_; rintro e w' ⟨rfl, rfl⟩)
    go_ret
    exact ⟨rfl, hb1⟩

/-- The first place behind which the sum is below 0, among the first k. -/
def fbVal (acc : Nat → Int) : Nat → Int × Int
  | 0 => (0, 3)
  | k + 1 => if (fbVal acc k).2 = 0 then fbVal acc k else if acc (k + 1) < 0 then ((k : Int), 0) else (0, 3)

theorem fb_yes {acc : Nat → Int} {k : Nat} (h : fbVal acc k = (0, 3)) (hn : acc (k + 1) < 0) : fbVal acc (k + 1) = ((k : Int), 0) := by
  show (if _ then _ else _) = _
  rw [h, if_neg (by decide), if_pos hn]

theorem fb_no {acc : Nat → Int} {k : Nat} (h : fbVal acc k = (0, 3)) (hn : ¬ acc (k + 1) < 0) : fbVal acc (k + 1) = (0, 3) := by
  show (if _ then _ else _) = _
  rw [h, if_neg (by decide), if_neg hn]

theorem fb_stay {acc : Nat → Int} {k : Nat} {p : Int × Int} (h : fbVal acc k = p) (hp : p.2 = 0) : ∀ n, k ≤ n → fbVal acc n = p
  | 0, hn => by obtain rfl : k = 0 := by omega
                exact h
  | n + 1, hn => by
    by_cases e : k = n + 1
    · subst e; exact h
    · have ih := fb_stay h hp n (by omega)
      show (if _ then _ else _) = _
      rw [ih, if_pos hp]

/-- What the function hands back. -/
def fbRes (n : Nat) (F0 : Nat → Int) (F1 : Nat → ByteArray) (F2 : Nat → ByteArray) (F3 : Nat → Int) (s : ByteArray) : Int × Int := (if listEntry n F0 F1 F2 F3 = true then (if nameB s = true then (fbVal (sumAll (fun k => chg (F1 k) (F2 k) (F3 k) s)) n) else (0, 1)) else (0, 1))

set_option maxHeartbeats 2000000 in
theorem implFirstBelow_any (g n : Nat) (F0 : Nat → Int) (F1 : Nat → ByteArray) (F2 : Nat → ByteArray) (F3 : Nat → Int) (s : ByteArray) (v1 : Int) (v2 : Int) (w : World) (t1 : TypeId) (hn : n ≤ 1048576) (h1 : w.rowIs g t1 (n * 4) (flat 4 (rowEntry F0 F1 F2 F3))) (hS1 : ∀ i, i < n → (F1 i).size ≤ maxLen) (hS2 : ∀ i, i < n → (F2 i).size ≤ maxLen) (hs : s.size ≤ maxLen) (hv : fbRes n F0 F1 F2 F3 s = (v1, v2)) :
    Calls Try.prog 56 #[.slice (some ⟨g, 0, none⟩) n n, .string s] w fun e w' => e = .returned (.tuple #[.int .i64 v1, .int .i64 v2]) ∧ Below w.heap.size w w' := by
  have hl1 := h1.lt
  have HR1 := Lib.hid (RdEntry.of_row h1)
  have H1 := Lib.hid h1
  have HS1 := Lib.hid hS1
  have HS2 := Lib.hid hS2
  clear h1 hS1 hS2
  by_cases e0 : listEntry n F0 F1 F2 F3 = true
  case neg =>
    obtain ⟨rfl, rfl⟩ : v1 = 0 ∧ v2 = 1 := by unfold fbRes at hv; rw [if_neg e0] at hv; simpa [eq_comm] using hv
    have e0n : (listEntry n F0 F1 F2 F3) = false := by simpa using e0
    clear hv e0
    go_enter Try.func56, Try.ntmps56
    go_wp2_with fail
    refine (ValidEntry_any _ _ F0 F1 F2 F3 _ _ hn H1.out HS1.out HS2.out).mono ?_
    rintro e w1 ⟨rfl, hb1⟩
    go_wp2_with (first | (go_at_call 111; refine (IsName_any _ _ (by assumption)).mono ?_; rintro e w' ⟨rfl, rfl⟩) | go_in)
    go_ret2
    exact ⟨rfl, hb1⟩
  by_cases e1 : nameB s = true
  case neg =>
    obtain ⟨rfl, rfl⟩ : v1 = 0 ∧ v2 = 1 := by unfold fbRes at hv; rw [if_pos e0, if_neg e1] at hv; simpa [eq_comm] using hv
    have e1n : (nameB s) = false := by simpa using e1
    clear hv e1
    go_enter Try.func56, Try.ntmps56
    go_wp2_with fail
    refine (ValidEntry_any _ _ F0 F1 F2 F3 _ _ hn H1.out HS1.out HS2.out).mono ?_
    rintro e w1 ⟨rfl, hb1⟩
    go_wp2_with (first | (go_at_call 111; refine (IsName_any _ _ (by assumption)).mono ?_; rintro e w' ⟨rfl, rfl⟩) | go_in)
    go_ret2
    exact ⟨rfl, hb1⟩
  replace hv : (fbVal (sumAll (fun k => chg (F1 k) (F2 k) (F3 k) s)) n) = (v1, v2) := by unfold fbRes at hv; rw [if_pos e0, if_pos e1] at hv; exact hv
  have HV := Lib.hid hv
  clear hv
  go_enter Try.func56, Try.ntmps56
  go_wp2_with fail
  refine (ValidEntry_any _ _ F0 F1 F2 F3 _ _ hn H1.out HS1.out HS2.out).mono ?_
  rintro e w1 ⟨rfl, hb1⟩
  have H2 := Lib.hid (row_below H1.out hb1 H1.out.lt)
  go_wp2_with (first | (go_at_call 111; refine (IsName_any _ _ (by assumption)).mono ?_; rintro e w' ⟨rfl, rfl⟩))
  go_loopw [6, 19] (fun v i wr => ∃ (k : Nat), k ≤ n ∧ i = .int .i64 k ∧ v = .int .i64 (sumAll (fun k => chg (F1 k) (F2 k) (F3 k) s) k) ∧ Hid (fbVal (sumAll (fun k => chg (F1 k) (F2 k) (F3 k) s)) k = (0, 3)) ∧ Below w.heap.size w wr) (fun _ i _ => n - (intOf i).toNat)
  case atStart => exact ⟨0, Nat.zero_le _, rfl, rfl, rfl, hb1⟩
  case round =>
    obtain ⟨k, hk, rfl, rfl, hfb, hbel⟩ := hrel
    have HB := Lib.hid hfb
    clear hfb
    by_cases hlt : k < n
    · have hlti : (k : Int) < (n : Int) := by omega
      obtain ⟨c0, c1, c2, c3⟩ := HR1.out k hlt
      have hbc := bcell hbel
      rw [← hbc _ _ hl1] at c0 c1 c2 c3
      simp only [Nat.zero_add] at c0 c1 c2 c3
      clear hbc
      have HF := Lib.hid (sumAll_succ (fun k => chg (F1 k) (F2 k) (F3 k) s) k)
      by_cases hneg : wrap64 (sumAll (fun k => chg (F1 k) (F2 k) (F3 k) s) k + chg (F1 k) (F2 k) (F3 k) s) < 0
      · have hN := fb_stay (fb_yes (acc := sumAll (fun k => chg (F1 k) (F2 k) (F3 k) s)) HB.out.out (by rw [HF.out]; exact hneg)) rfl n (by omega)
        have hv := HV.out
        rw [hN] at hv
        simp only [Prod.mk.injEq] at hv
        have HVV := Lib.hid hv
        clear hv hN
        go_wp2_with (go_at_call 115; refine (change_any _ _ _ _ _ _).mono ?_; rintro e w' ⟨rfl, rfl⟩)
        go_ret2
        exact ⟨by rw [← HVV.out.1, ← HVV.out.2]; rfl, below2 hbel _ _⟩
      · have HN := Lib.hid (show Hid (fbVal (sumAll (fun k => chg (F1 k) (F2 k) (F3 k) s)) (k + 1) = (0, 3)) from fb_no HB.out.out (by rw [HF.out]; exact hneg))
        have hnd : decide (wrap64 (sumAll (fun k => chg (F1 k) (F2 k) (F3 k) s) k + chg (F1 k) (F2 k) (F3 k) s) < 0) = false := by simpa using hneg
        go_wp2_with (go_at_call 115; refine (change_any _ _ _ _ _ _).mono ?_; rintro e w' ⟨rfl, rfl⟩)
        go_roundw
        case rel => first | exact ⟨k + 1, by omega, by go_num, by rw [HF.out], HN.out, below2 hbel _ _⟩ | ((repeat apply Exists.intro); exact ⟨⟨k + 1, by omega, by go_num, by rw [HF.out], HN.out, below2 hbel _ _⟩, rfl⟩)
        case measure => simp [intOf]; omega
    · obtain rfl : k = n := by omega
      have hv := HV.out
      rw [HB.out.out] at hv
      simp only [Prod.mk.injEq] at hv
      have HVV := Lib.hid hv
      clear hv
      go_wp2
      go_ret2
      exact ⟨by rw [← HVV.out.1, ← HVV.out.2]; rfl, hbel⟩

set_option maxHeartbeats 2000000 in
theorem specFirstBelow_any (g n : Nat) (F0 : Nat → Int) (F1 : Nat → ByteArray) (F2 : Nat → ByteArray) (F3 : Nat → Int) (s : ByteArray) (v1 v2 : Int) (w : World) (t1 : TypeId) (hn : n ≤ 1048576) (h1 : w.rowIs g t1 (n * 4) (flat 4 (rowEntry F0 F1 F2 F3))) (hS1 : ∀ i, i < n → (F1 i).size ≤ maxLen) (hS2 : ∀ i, i < n → (F2 i).size ≤ maxLen) (hs : s.size ≤ maxLen) (hv : fbRes n F0 F1 F2 F3 s = (v1, v2)) :
    Calls Try.prog 55 #[.slice (some ⟨g, 0, none⟩) n n, .string s] w fun e w' => e = .returned (.tuple #[.int .i64 v1, .int .i64 v2]) ∧ Below w.heap.size w w' := by
  have hl1 := h1.lt
  have HR1 := Lib.hid (RdEntry.of_row h1)
  have H1 := Lib.hid h1
  have HS1 := Lib.hid hS1
  have HS2 := Lib.hid hS2
  clear h1 hS1 hS2
  by_cases e0 : listEntry n F0 F1 F2 F3 = true
  case neg =>
    obtain ⟨rfl, rfl⟩ : v1 = 0 ∧ v2 = 1 := by unfold fbRes at hv; rw [if_neg e0] at hv; simpa [eq_comm] using hv
    have E := Lib.hid (show ¬ (listEntry n F0 F1 F2 F3 && nameB s) = true by rw [Bool.and_eq_true]; exact fun h => e0 h.1)
    clear hv
    go_enter Try.func55, Try.ntmps55
    go_wp2_with fail
    refine (l25Ask_any _ _ F0 F1 F2 F3 _ 1 _ _ hn H1.out HS1.out HS2.out hs (by rw [if_neg E.out])).mono ?_
    rintro e w1 ⟨rfl, hb1⟩
    go_wp2
    go_ret2
    exact ⟨rfl, hb1⟩
  by_cases e1 : nameB s = true
  case neg =>
    obtain ⟨rfl, rfl⟩ : v1 = 0 ∧ v2 = 1 := by unfold fbRes at hv; rw [if_pos e0, if_neg e1] at hv; simpa [eq_comm] using hv
    have E := Lib.hid (show ¬ (listEntry n F0 F1 F2 F3 && nameB s) = true by rw [Bool.and_eq_true]; exact fun h => e1 h.2)
    clear hv
    go_enter Try.func55, Try.ntmps55
    go_wp2_with fail
    refine (l25Ask_any _ _ F0 F1 F2 F3 _ 1 _ _ hn H1.out HS1.out HS2.out hs (by rw [if_neg E.out])).mono ?_
    rintro e w1 ⟨rfl, hb1⟩
    go_wp2
    go_ret2
    exact ⟨rfl, hb1⟩
  replace hv : (fbVal (sumAll (fun k => chg (F1 k) (F2 k) (F3 k) s)) n) = (v1, v2) := by unfold fbRes at hv; rw [if_pos e0, if_pos e1] at hv; exact hv
  have HV := Lib.hid hv
  clear hv
  have E := Lib.hid (show (listEntry n F0 F1 F2 F3 && nameB s) = true by rw [e0, e1]; rfl)
  go_enter Try.func55, Try.ntmps55
  go_wp2_with fail
  refine (l25Ask_any _ _ F0 F1 F2 F3 _ 0 _ _ hn H1.out HS1.out HS2.out hs (by rw [if_pos E.out])).mono ?_
  rintro e w1 ⟨rfl, hb1⟩
  go_wp2
  go_loopw [7, 8] (fun v i wr => ∃ (k : Nat), k ≤ n ∧ i = .int .i64 k ∧ v = .int .i64 (sumAll (fun k => chg (F1 k) (F2 k) (F3 k) s) k) ∧ Hid (fbVal (sumAll (fun k => chg (F1 k) (F2 k) (F3 k) s)) k = (0, 3)) ∧ Below w.heap.size w wr) (fun _ i _ => n - (intOf i).toNat)
  case atStart => exact ⟨0, Nat.zero_le _, rfl, rfl, rfl, hb1⟩
  case round =>
    obtain ⟨k, hk, rfl, rfl, hfb, hbel⟩ := hrel
    have HB := Lib.hid hfb
    clear hfb
    by_cases hlt : k < n
    · have hlti : (k : Int) < (n : Int) := by omega
      obtain ⟨c0, c1, c2, c3⟩ := HR1.out k hlt
      have hbc := bcell hbel
      rw [← hbc _ _ hl1] at c0 c1 c2 c3
      simp only [Nat.zero_add] at c0 c1 c2 c3
      clear hbc
      have HF := Lib.hid (sumAll_succ (fun k => chg (F1 k) (F2 k) (F3 k) s) k)
      by_cases hneg : wrap64 (sumAll (fun k => chg (F1 k) (F2 k) (F3 k) s) k + chg (F1 k) (F2 k) (F3 k) s) < 0
      · have hN := fb_stay (fb_yes (acc := sumAll (fun k => chg (F1 k) (F2 k) (F3 k) s)) HB.out.out (by rw [HF.out]; exact hneg)) rfl n (by omega)
        have hv := HV.out
        rw [hN] at hv
        simp only [Prod.mk.injEq] at hv
        have HVV := Lib.hid hv
        clear hv hN
        go_wp2_with (go_at_call 114; refine (l25Change_any _ _ _ _ _ _ _ _ c0 c1 c2 c3).mono ?_; rintro e w' ⟨rfl, rfl⟩)
        go_ret2
        exact ⟨by rw [← HVV.out.1, ← HVV.out.2]; rfl, hbel⟩
      · have HN := Lib.hid (show Hid (fbVal (sumAll (fun k => chg (F1 k) (F2 k) (F3 k) s)) (k + 1) = (0, 3)) from fb_no HB.out.out (by rw [HF.out]; exact hneg))
        have hnd : decide (wrap64 (sumAll (fun k => chg (F1 k) (F2 k) (F3 k) s) k + chg (F1 k) (F2 k) (F3 k) s) < 0) = false := by simpa using hneg
        go_wp2_with (go_at_call 114; refine (l25Change_any _ _ _ _ _ _ _ _ c0 c1 c2 c3).mono ?_; rintro e w' ⟨rfl, rfl⟩)
        go_roundw
        case rel => first | exact ⟨k + 1, by omega, by go_num, by rw [HF.out], HN.out, hbel⟩ | ((repeat apply Exists.intro); exact ⟨⟨k + 1, by omega, by go_num, by rw [HF.out], HN.out, hbel⟩, rfl⟩)
        case measure => simp [intOf]; omega
    · obtain rfl : k = n := by omega
      have hv := HV.out
      rw [HB.out.out] at hv
      simp only [Prod.mk.injEq] at hv
      have HVV := Lib.hid hv
      clear hv
      go_wp2
      go_ret2
      exact ⟨by rw [← HVV.out.1, ← HVV.out.2]; rfl, hbel⟩
end Go.Proofs.Ytbhiobmkgiokiaa
