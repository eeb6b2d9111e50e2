/- The contracts of Reversed. -/
import Derived.Test.YtllmillhdmknpaaEntryV
import Derived.Test.YtllmillhdmknpaaOpenX
import Derived.Test.YtllmillhdmknpaaMore
namespace Go.Proofs.Ytllmillhdmknpaa
open Go.RowKit
attribute [local go_sem ↓] Go.wp_at_zero Go.wp_at_succ
set_option linter.unusedVariables false

/-- What Reversed hands back. -/
def revRes (n : Nat) (F0 : Nat → Int) (F1 : Nat → ByteArray) (F2 : Nat → ByteArray) (F3 : Nat → Int) (k day : Int) : Int × ByteArray × ByteArray × Int × Int := (if listEntry n F0 F1 F2 F3 = true then (if inB day 0 100000 = true then (if inB k 0 ((n : Int) - 1) = true then (if decide (F0 k.toNat ≤ day) = true then (day, F2 k.toNat, F1 k.toNat, F3 k.toNat, 0) else (0, ⟨#[]⟩, ⟨#[]⟩, 0, 6)) else (0, ⟨#[]⟩, ⟨#[]⟩, 0, 2)) else (0, ⟨#[]⟩, ⟨#[]⟩, 0, 2)) else (0, ⟨#[]⟩, ⟨#[]⟩, 0, 1))

set_option maxHeartbeats 2000000 in
theorem specRev_any (g n : Nat) (F0 : Nat → Int) (F1 : Nat → ByteArray) (F2 : Nat → ByteArray) (F3 : Nat → Int) (k day : Int) (y0 : Int) (y1 y2 : ByteArray) (y3 c : Int) (w : World) (t1 : TypeId) (hn : n ≤ 1048576) (h1 : w.rowIs g t1 (n * 4) (flat 4 (rowEntry F0 F1 F2 F3))) (hS1 : ∀ i, i < n → (F1 i).size ≤ maxLen) (hS2 : ∀ i, i < n → (F2 i).size ≤ maxLen) (hk : (Lit.int .i64 k).wf = true) (hv : revRes n F0 F1 F2 F3 k day = (y0, y1, y2, y3, c)) :
    Calls Try.prog 29 #[.slice (some ⟨g, 0, none⟩) n n, .int .i64 k, .int .i64 day] w fun e w' => e = .returned (.tuple #[.agg #[.int .i64 y0, .string y1, .string y2, .int .i64 y3], .int .i64 c]) ∧ Below w.heap.size w w' := by
  have hl1 := h1.lt
  have HR1 := Lib.hid (RdEntry.of_row h1)
  have H1 := Lib.hid h1
  have HS1 := Lib.hid hS1
  have HS2 := Lib.hid hS2
  clear h1 hS1 hS2
  obtain ⟨hk1, hk2⟩ := wf_i64 hk
  clear hk
  by_cases e0 : listEntry n F0 F1 F2 F3 = true
  case neg =>
    obtain ⟨rfl, rfl, rfl, rfl, rfl⟩ : y0 = 0 ∧ y1 = ⟨#[]⟩ ∧ y2 = ⟨#[]⟩ ∧ y3 = 0 ∧ c = 1 := by unfold revRes at hv; rw [if_neg e0] at hv; simpa [eq_comm] using hv
    have e0n : (listEntry n F0 F1 F2 F3) = false := by simpa using e0
    clear hv e0
    go_enter Try.func29, Try.ntmps29
    go_wp2_with fail
    refine (OkEntry_any _ _ F0 F1 F2 F3 _ _ hn (H1.out.alloc _) HS1.out HS2.out).mono ?_
    rintro e w1 ⟨rfl, hb1⟩
    have C1 := (below_new w (.cells #[.int .i64 0, .string ⟨#[]⟩, .string ⟨#[]⟩, .int .i64 0] 46)).trans (hb1.mono (by simp))
    have hs1 : w.heap.size < w1.heap.size := by have := hb1.size; simp at this; omega
    have b0 : w1.cell? ⟨w.heap.size, 0, none⟩ = some (.int .i64 0) := (bcell hb1 _ _ (by simp)).trans (by simp)
    have b1 : w1.cell? ⟨w.heap.size, 1, none⟩ = some (.string ⟨#[]⟩) := (bcell hb1 _ _ (by simp)).trans (by simp)
    have b2 : w1.cell? ⟨w.heap.size, 2, none⟩ = some (.string ⟨#[]⟩) := (bcell hb1 _ _ (by simp)).trans (by simp)
    have b3 : w1.cell? ⟨w.heap.size, 3, none⟩ = some (.int .i64 0) := (bcell hb1 _ _ (by simp)).trans (by simp)
    have g0 : w1.frozen? ⟨w.heap.size, 0, none⟩ = false := (hb1.frozen (p := ⟨w.heap.size, 0, none⟩) (by simp)).trans (by simp)
    have g1 : w1.frozen? ⟨w.heap.size, 1, none⟩ = false := (hb1.frozen (p := ⟨w.heap.size, 1, none⟩) (by simp)).trans (by simp)
    have g2 : w1.frozen? ⟨w.heap.size, 2, none⟩ = false := (hb1.frozen (p := ⟨w.heap.size, 2, none⟩) (by simp)).trans (by simp)
    have g3 : w1.frozen? ⟨w.heap.size, 3, none⟩ = false := (hb1.frozen (p := ⟨w.heap.size, 3, none⟩) (by simp)).trans (by simp)
    go_wp2_with (first | (go_at_call 73; refine (l00In_any _ _ _ _).mono ?_; rintro e w' ⟨rfl, rfl⟩) | (go_at_call 89; refine (l21Day_any _ _).mono ?_; rintro e w' ⟨rfl, rfl⟩))
    all_goals exact bodyPost_ret (v := .tuple #[.agg #[.int .i64 0, .string ⟨#[]⟩, .string ⟨#[]⟩, .int .i64 0], .int .i64 1]) (by simp [results, Try.results29, go_sem, *]) rfl ⟨rfl, by repeat (first | assumption | exact below_new _ _ | exact (below_new _ _).alloc (by simp) _ | refine Below.alloc ?_ (by first | assumption | (simp; omega) | exact Below.size (by assumption)) _ | refine Below.setCell ?_ (by first | exact Nat.le_refl _ | (simp; done) | (simp; omega)) _)⟩
  by_cases e1 : inB day 0 100000 = true
  case neg =>
    obtain ⟨rfl, rfl, rfl, rfl, rfl⟩ : y0 = 0 ∧ y1 = ⟨#[]⟩ ∧ y2 = ⟨#[]⟩ ∧ y3 = 0 ∧ c = 2 := by unfold revRes at hv; rw [if_pos e0, if_neg e1] at hv; simpa [eq_comm] using hv
    have e1n : (inB day 0 100000) = false := by simpa using e1
    clear hv e1
    go_enter Try.func29, Try.ntmps29
    go_wp2_with fail
    refine (OkEntry_any _ _ F0 F1 F2 F3 _ _ hn (H1.out.alloc _) HS1.out HS2.out).mono ?_
    rintro e w1 ⟨rfl, hb1⟩
    have C1 := (below_new w (.cells #[.int .i64 0, .string ⟨#[]⟩, .string ⟨#[]⟩, .int .i64 0] 46)).trans (hb1.mono (by simp))
    have hs1 : w.heap.size < w1.heap.size := by have := hb1.size; simp at this; omega
    have b0 : w1.cell? ⟨w.heap.size, 0, none⟩ = some (.int .i64 0) := (bcell hb1 _ _ (by simp)).trans (by simp)
    have b1 : w1.cell? ⟨w.heap.size, 1, none⟩ = some (.string ⟨#[]⟩) := (bcell hb1 _ _ (by simp)).trans (by simp)
    have b2 : w1.cell? ⟨w.heap.size, 2, none⟩ = some (.string ⟨#[]⟩) := (bcell hb1 _ _ (by simp)).trans (by simp)
    have b3 : w1.cell? ⟨w.heap.size, 3, none⟩ = some (.int .i64 0) := (bcell hb1 _ _ (by simp)).trans (by simp)
    have g0 : w1.frozen? ⟨w.heap.size, 0, none⟩ = false := (hb1.frozen (p := ⟨w.heap.size, 0, none⟩) (by simp)).trans (by simp)
    have g1 : w1.frozen? ⟨w.heap.size, 1, none⟩ = false := (hb1.frozen (p := ⟨w.heap.size, 1, none⟩) (by simp)).trans (by simp)
    have g2 : w1.frozen? ⟨w.heap.size, 2, none⟩ = false := (hb1.frozen (p := ⟨w.heap.size, 2, none⟩) (by simp)).trans (by simp)
    have g3 : w1.frozen? ⟨w.heap.size, 3, none⟩ = false := (hb1.frozen (p := ⟨w.heap.size, 3, none⟩) (by simp)).trans (by simp)
    go_wp2_with (first | (go_at_call 73; refine (l00In_any _ _ _ _).mono ?_; rintro e w' ⟨rfl, rfl⟩) | (go_at_call 89; refine (l21Day_any _ _).mono ?_; rintro e w' ⟨rfl, rfl⟩))
    all_goals exact bodyPost_ret (v := .tuple #[.agg #[.int .i64 0, .string ⟨#[]⟩, .string ⟨#[]⟩, .int .i64 0], .int .i64 2]) (by simp [results, Try.results29, go_sem, *]) rfl ⟨rfl, by repeat (first | assumption | exact below_new _ _ | exact (below_new _ _).alloc (by simp) _ | refine Below.alloc ?_ (by first | assumption | (simp; omega) | exact Below.size (by assumption)) _ | refine Below.setCell ?_ (by first | exact Nat.le_refl _ | (simp; done) | (simp; omega)) _)⟩
  by_cases e2 : inB k 0 ((n : Int) - 1) = true
  case neg =>
    obtain ⟨rfl, rfl, rfl, rfl, rfl⟩ : y0 = 0 ∧ y1 = ⟨#[]⟩ ∧ y2 = ⟨#[]⟩ ∧ y3 = 0 ∧ c = 2 := by unfold revRes at hv; rw [if_pos e0, if_pos e1, if_neg e2] at hv; simpa [eq_comm] using hv
    have e2n : (inB k 0 ((n : Int) - 1)) = false := by simpa using e2
    clear hv e2
    go_enter Try.func29, Try.ntmps29
    go_wp2_with fail
    refine (OkEntry_any _ _ F0 F1 F2 F3 _ _ hn (H1.out.alloc _) HS1.out HS2.out).mono ?_
    rintro e w1 ⟨rfl, hb1⟩
    have C1 := (below_new w (.cells #[.int .i64 0, .string ⟨#[]⟩, .string ⟨#[]⟩, .int .i64 0] 46)).trans (hb1.mono (by simp))
    have hs1 : w.heap.size < w1.heap.size := by have := hb1.size; simp at this; omega
    have b0 : w1.cell? ⟨w.heap.size, 0, none⟩ = some (.int .i64 0) := (bcell hb1 _ _ (by simp)).trans (by simp)
    have b1 : w1.cell? ⟨w.heap.size, 1, none⟩ = some (.string ⟨#[]⟩) := (bcell hb1 _ _ (by simp)).trans (by simp)
    have b2 : w1.cell? ⟨w.heap.size, 2, none⟩ = some (.string ⟨#[]⟩) := (bcell hb1 _ _ (by simp)).trans (by simp)
    have b3 : w1.cell? ⟨w.heap.size, 3, none⟩ = some (.int .i64 0) := (bcell hb1 _ _ (by simp)).trans (by simp)
    have g0 : w1.frozen? ⟨w.heap.size, 0, none⟩ = false := (hb1.frozen (p := ⟨w.heap.size, 0, none⟩) (by simp)).trans (by simp)
    have g1 : w1.frozen? ⟨w.heap.size, 1, none⟩ = false := (hb1.frozen (p := ⟨w.heap.size, 1, none⟩) (by simp)).trans (by simp)
    have g2 : w1.frozen? ⟨w.heap.size, 2, none⟩ = false := (hb1.frozen (p := ⟨w.heap.size, 2, none⟩) (by simp)).trans (by simp)
    have g3 : w1.frozen? ⟨w.heap.size, 3, none⟩ = false := (hb1.frozen (p := ⟨w.heap.size, 3, none⟩) (by simp)).trans (by simp)
    go_wp2_with (first | (go_at_call 73; refine (l00In_any _ _ _ _).mono ?_; rintro e w' ⟨rfl, rfl⟩) | (go_at_call 89; refine (l21Day_any _ _).mono ?_; rintro e w' ⟨rfl, rfl⟩))
    all_goals exact bodyPost_ret (v := .tuple #[.agg #[.int .i64 0, .string ⟨#[]⟩, .string ⟨#[]⟩, .int .i64 0], .int .i64 2]) (by simp [results, Try.results29, go_sem, *]) rfl ⟨rfl, by repeat (first | assumption | exact below_new _ _ | exact (below_new _ _).alloc (by simp) _ | refine Below.alloc ?_ (by first | assumption | (simp; omega) | exact Below.size (by assumption)) _ | refine Below.setCell ?_ (by first | exact Nat.le_refl _ | (simp; done) | (simp; omega)) _)⟩
  have e2i := e2
  unfold inB at e2i
  simp only [Bool.and_eq_true, decide_eq_true_eq] at e2i
  obtain ⟨q, rfl⟩ : ∃ q : Nat, k = (q : Int) := ⟨k.toNat, by omega⟩
  have hq : q < n := by omega
  have hqi : (q : Int) < (n : Int) := by omega
  have hq0 : (0 : Int) ≤ (q : Int) := by omega
  by_cases e3 : decide (F0 q ≤ day) = true
  case neg =>
    obtain ⟨rfl, rfl, rfl, rfl, rfl⟩ : y0 = 0 ∧ y1 = ⟨#[]⟩ ∧ y2 = ⟨#[]⟩ ∧ y3 = 0 ∧ c = 6 := by unfold revRes at hv; simp only [Int.toNat_natCast] at hv; rw [if_pos e0, if_pos e1, if_pos e2, if_neg e3] at hv; simpa [eq_comm] using hv
    have e3n : (decide (F0 q ≤ day)) = false := by simpa using e3
    clear hv e3
    have e3l : day < F0 q := by simpa using e3n
    obtain ⟨c0, c1, c2, c3⟩ := HR1.out q hq
    simp only [Nat.zero_add] at c0 c1 c2 c3
    go_enter Try.func29, Try.ntmps29
    go_wp2_with fail
    refine (OkEntry_any _ _ F0 F1 F2 F3 _ _ hn (H1.out.alloc _) HS1.out HS2.out).mono ?_
    rintro e w1 ⟨rfl, hb1⟩
    have C1 := (below_new w (.cells #[.int .i64 0, .string ⟨#[]⟩, .string ⟨#[]⟩, .int .i64 0] 46)).trans (hb1.mono (by simp))
    have hs1 : w.heap.size < w1.heap.size := by have := hb1.size; simp at this; omega
    have b0 : w1.cell? ⟨w.heap.size, 0, none⟩ = some (.int .i64 0) := (bcell hb1 _ _ (by simp)).trans (by simp)
    have b1 : w1.cell? ⟨w.heap.size, 1, none⟩ = some (.string ⟨#[]⟩) := (bcell hb1 _ _ (by simp)).trans (by simp)
    have b2 : w1.cell? ⟨w.heap.size, 2, none⟩ = some (.string ⟨#[]⟩) := (bcell hb1 _ _ (by simp)).trans (by simp)
    have b3 : w1.cell? ⟨w.heap.size, 3, none⟩ = some (.int .i64 0) := (bcell hb1 _ _ (by simp)).trans (by simp)
    have g0 : w1.frozen? ⟨w.heap.size, 0, none⟩ = false := (hb1.frozen (p := ⟨w.heap.size, 0, none⟩) (by simp)).trans (by simp)
    have g1 : w1.frozen? ⟨w.heap.size, 1, none⟩ = false := (hb1.frozen (p := ⟨w.heap.size, 1, none⟩) (by simp)).trans (by simp)
    have g2 : w1.frozen? ⟨w.heap.size, 2, none⟩ = false := (hb1.frozen (p := ⟨w.heap.size, 2, none⟩) (by simp)).trans (by simp)
    have g3 : w1.frozen? ⟨w.heap.size, 3, none⟩ = false := (hb1.frozen (p := ⟨w.heap.size, 3, none⟩) (by simp)).trans (by simp)
    have d0 : w1.cell? ⟨g, q * 4, none⟩ = some (.int .i64 (F0 q)) := (bcell C1 _ _ hl1).trans c0
    have d1 : w1.cell? ⟨g, q * 4 + 1, none⟩ = some (.string (F1 q)) := (bcell C1 _ _ hl1).trans c1
    have d2 : w1.cell? ⟨g, q * 4 + 2, none⟩ = some (.string (F2 q)) := (bcell C1 _ _ hl1).trans c2
    have d3 : w1.cell? ⟨g, q * 4 + 3, none⟩ = some (.int .i64 (F3 q)) := (bcell C1 _ _ hl1).trans c3
    clear c0 c1 c2 c3
    go_wp2_with (first | (go_at_call 73; refine (l00In_any _ _ _ _).mono ?_; rintro e w' ⟨rfl, rfl⟩) | (go_at_call 89; refine (l21Day_any _ _).mono ?_; rintro e w' ⟨rfl, rfl⟩))
    all_goals exact bodyPost_ret (v := .tuple #[.agg #[.int .i64 0, .string ⟨#[]⟩, .string ⟨#[]⟩, .int .i64 0], .int .i64 6]) (by simp [results, Try.results29, go_sem, *]) rfl ⟨rfl, by repeat (first | assumption | exact below_new _ _ | exact (below_new _ _).alloc (by simp) _ | refine Below.alloc ?_ (by first | assumption | (simp; omega) | exact Below.size (by assumption)) _ | refine Below.setCell ?_ (by first | exact Nat.le_refl _ | (simp; done) | (simp; omega)) _)⟩
  obtain ⟨rfl, rfl, rfl, rfl, rfl⟩ : y0 = day ∧ y1 = F2 q ∧ y2 = F1 q ∧ y3 = F3 q ∧ c = 0 := by unfold revRes at hv; simp only [Int.toNat_natCast] at hv; rw [if_pos e0, if_pos e1, if_pos e2, if_pos e3] at hv; simpa [eq_comm] using hv
  clear hv
  have e3l : F0 q ≤ y0 := by simpa using e3
  have e3d : decide (y0 < F0 q) = false := by simp; omega
  obtain ⟨c0, c1, c2, c3⟩ := HR1.out q hq
  simp only [Nat.zero_add] at c0 c1 c2 c3
  go_enter Try.func29, Try.ntmps29
  go_wp2_with fail
  refine (OkEntry_any _ _ F0 F1 F2 F3 _ _ hn (H1.out.alloc _) HS1.out HS2.out).mono ?_
  rintro e w1 ⟨rfl, hb1⟩
  have C1 := (below_new w (.cells #[.int .i64 0, .string ⟨#[]⟩, .string ⟨#[]⟩, .int .i64 0] 46)).trans (hb1.mono (by simp))
  have hs1 : w.heap.size < w1.heap.size := by have := hb1.size; simp at this; omega
  have b0 : w1.cell? ⟨w.heap.size, 0, none⟩ = some (.int .i64 0) := (bcell hb1 _ _ (by simp)).trans (by simp)
  have b1 : w1.cell? ⟨w.heap.size, 1, none⟩ = some (.string ⟨#[]⟩) := (bcell hb1 _ _ (by simp)).trans (by simp)
  have b2 : w1.cell? ⟨w.heap.size, 2, none⟩ = some (.string ⟨#[]⟩) := (bcell hb1 _ _ (by simp)).trans (by simp)
  have b3 : w1.cell? ⟨w.heap.size, 3, none⟩ = some (.int .i64 0) := (bcell hb1 _ _ (by simp)).trans (by simp)
  have g0 : w1.frozen? ⟨w.heap.size, 0, none⟩ = false := (hb1.frozen (p := ⟨w.heap.size, 0, none⟩) (by simp)).trans (by simp)
  have g1 : w1.frozen? ⟨w.heap.size, 1, none⟩ = false := (hb1.frozen (p := ⟨w.heap.size, 1, none⟩) (by simp)).trans (by simp)
  have g2 : w1.frozen? ⟨w.heap.size, 2, none⟩ = false := (hb1.frozen (p := ⟨w.heap.size, 2, none⟩) (by simp)).trans (by simp)
  have g3 : w1.frozen? ⟨w.heap.size, 3, none⟩ = false := (hb1.frozen (p := ⟨w.heap.size, 3, none⟩) (by simp)).trans (by simp)
  have d0 : w1.cell? ⟨g, q * 4, none⟩ = some (.int .i64 (F0 q)) := (bcell C1 _ _ hl1).trans c0
  have d1 : w1.cell? ⟨g, q * 4 + 1, none⟩ = some (.string (F1 q)) := (bcell C1 _ _ hl1).trans c1
  have d2 : w1.cell? ⟨g, q * 4 + 2, none⟩ = some (.string (F2 q)) := (bcell C1 _ _ hl1).trans c2
  have d3 : w1.cell? ⟨g, q * 4 + 3, none⟩ = some (.int .i64 (F3 q)) := (bcell C1 _ _ hl1).trans c3
  clear c0 c1 c2 c3
  go_wp2_with (first | (go_at_call 73; refine (l00In_any _ _ _ _).mono ?_; rintro e w' ⟨rfl, rfl⟩) | (go_at_call 89; refine (l21Day_any _ _).mono ?_; rintro e w' ⟨rfl, rfl⟩))
  all_goals exact bodyPost_ret (v := .tuple #[.agg #[.int .i64 y0, .string (F2 q), .string (F1 q), .int .i64 (F3 q)], .int .i64 0]) (by simp [results, Try.results29, go_sem, *]) rfl ⟨rfl, by repeat (first | assumption | exact below_new _ _ | exact (below_new _ _).alloc (by simp) _ | refine Below.alloc ?_ (by first | assumption | (simp; omega) | exact Below.size (by assumption)) _ | refine Below.setCell ?_ (by first | exact Nat.le_refl _ | (simp; done) | (simp; omega)) _)⟩

set_option maxHeartbeats 2000000 in
theorem implRev_any (g n : Nat) (F0 : Nat → Int) (F1 : Nat → ByteArray) (F2 : Nat → ByteArray) (F3 : Nat → Int) (k day : Int) (y0 : Int) (y1 y2 : ByteArray) (y3 c : Int) (w : World) (t1 : TypeId) (hn : n ≤ 1048576) (h1 : w.rowIs g t1 (n * 4) (flat 4 (rowEntry F0 F1 F2 F3))) (hS1 : ∀ i, i < n → (F1 i).size ≤ maxLen) (hS2 : ∀ i, i < n → (F2 i).size ≤ maxLen) (hk : (Lit.int .i64 k).wf = true) (hv : revRes n F0 F1 F2 F3 k day = (y0, y1, y2, y3, c)) :
    Calls Try.prog 31 #[.slice (some ⟨g, 0, none⟩) n n, .int .i64 k, .int .i64 day] w fun e w' => e = .returned (.tuple #[.agg #[.int .i64 y0, .string y1, .string y2, .int .i64 y3], .int .i64 c]) ∧ Below w.heap.size w w' := by
  have hl1 := h1.lt
  have HR1 := Lib.hid (RdEntry.of_row h1)
  have H1 := Lib.hid h1
  have HS1 := Lib.hid hS1
  have HS2 := Lib.hid hS2
  clear h1 hS1 hS2
  obtain ⟨hk1, hk2⟩ := wf_i64 hk
  clear hk
  by_cases e0 : listEntry n F0 F1 F2 F3 = true
  case neg =>
    obtain ⟨rfl, rfl, rfl, rfl, rfl⟩ : y0 = 0 ∧ y1 = ⟨#[]⟩ ∧ y2 = ⟨#[]⟩ ∧ y3 = 0 ∧ c = 1 := by unfold revRes at hv; rw [if_neg e0] at hv; simpa [eq_comm] using hv
    have e0n : (listEntry n F0 F1 F2 F3) = false := by simpa using e0
    clear hv e0
    go_enter Try.func31, Try.ntmps31
    go_wp2_with fail
    refine (ValidEntry_any _ _ F0 F1 F2 F3 _ _ hn (H1.out.alloc _) HS1.out HS2.out).mono ?_
    rintro e w1 ⟨rfl, hb1⟩
    have C1 := (below_new w (.cells #[.int .i64 0, .string ⟨#[]⟩, .string ⟨#[]⟩, .int .i64 0] 46)).trans (hb1.mono (by simp))
    have hs1 : w.heap.size < w1.heap.size := by have := hb1.size; simp at this; omega
    have b0 : w1.cell? ⟨w.heap.size, 0, none⟩ = some (.int .i64 0) := (bcell hb1 _ _ (by simp)).trans (by simp)
    have b1 : w1.cell? ⟨w.heap.size, 1, none⟩ = some (.string ⟨#[]⟩) := (bcell hb1 _ _ (by simp)).trans (by simp)
    have b2 : w1.cell? ⟨w.heap.size, 2, none⟩ = some (.string ⟨#[]⟩) := (bcell hb1 _ _ (by simp)).trans (by simp)
    have b3 : w1.cell? ⟨w.heap.size, 3, none⟩ = some (.int .i64 0) := (bcell hb1 _ _ (by simp)).trans (by simp)
    have g0 : w1.frozen? ⟨w.heap.size, 0, none⟩ = false := (hb1.frozen (p := ⟨w.heap.size, 0, none⟩) (by simp)).trans (by simp)
    have g1 : w1.frozen? ⟨w.heap.size, 1, none⟩ = false := (hb1.frozen (p := ⟨w.heap.size, 1, none⟩) (by simp)).trans (by simp)
    have g2 : w1.frozen? ⟨w.heap.size, 2, none⟩ = false := (hb1.frozen (p := ⟨w.heap.size, 2, none⟩) (by simp)).trans (by simp)
    have g3 : w1.frozen? ⟨w.heap.size, 3, none⟩ = false := (hb1.frozen (p := ⟨w.heap.size, 3, none⟩) (by simp)).trans (by simp)
    go_wp2_with (first | (go_at_call 77; refine (within_any _ _ _ _).mono ?_; rintro e w' ⟨rfl, rfl⟩) | go_in)
    all_goals exact bodyPost_ret (v := .tuple #[.agg #[.int .i64 0, .string ⟨#[]⟩, .string ⟨#[]⟩, .int .i64 0], .int .i64 1]) (by simp [results, Try.results31, go_sem, *]) rfl ⟨rfl, by repeat (first | assumption | exact below_new _ _ | exact (below_new _ _).alloc (by simp) _ | refine Below.alloc ?_ (by first | assumption | (simp; omega) | exact Below.size (by assumption)) _ | refine Below.setCell ?_ (by first | exact Nat.le_refl _ | (simp; done) | (simp; omega)) _)⟩
  by_cases e1 : inB day 0 100000 = true
  case neg =>
    obtain ⟨rfl, rfl, rfl, rfl, rfl⟩ : y0 = 0 ∧ y1 = ⟨#[]⟩ ∧ y2 = ⟨#[]⟩ ∧ y3 = 0 ∧ c = 2 := by unfold revRes at hv; rw [if_pos e0, if_neg e1] at hv; simpa [eq_comm] using hv
    have e1n : (inB day 0 100000) = false := by simpa using e1
    clear hv e1
    go_enter Try.func31, Try.ntmps31
    go_wp2_with fail
    refine (ValidEntry_any _ _ F0 F1 F2 F3 _ _ hn (H1.out.alloc _) HS1.out HS2.out).mono ?_
    rintro e w1 ⟨rfl, hb1⟩
    have C1 := (below_new w (.cells #[.int .i64 0, .string ⟨#[]⟩, .string ⟨#[]⟩, .int .i64 0] 46)).trans (hb1.mono (by simp))
    have hs1 : w.heap.size < w1.heap.size := by have := hb1.size; simp at this; omega
    have b0 : w1.cell? ⟨w.heap.size, 0, none⟩ = some (.int .i64 0) := (bcell hb1 _ _ (by simp)).trans (by simp)
    have b1 : w1.cell? ⟨w.heap.size, 1, none⟩ = some (.string ⟨#[]⟩) := (bcell hb1 _ _ (by simp)).trans (by simp)
    have b2 : w1.cell? ⟨w.heap.size, 2, none⟩ = some (.string ⟨#[]⟩) := (bcell hb1 _ _ (by simp)).trans (by simp)
    have b3 : w1.cell? ⟨w.heap.size, 3, none⟩ = some (.int .i64 0) := (bcell hb1 _ _ (by simp)).trans (by simp)
    have g0 : w1.frozen? ⟨w.heap.size, 0, none⟩ = false := (hb1.frozen (p := ⟨w.heap.size, 0, none⟩) (by simp)).trans (by simp)
    have g1 : w1.frozen? ⟨w.heap.size, 1, none⟩ = false := (hb1.frozen (p := ⟨w.heap.size, 1, none⟩) (by simp)).trans (by simp)
    have g2 : w1.frozen? ⟨w.heap.size, 2, none⟩ = false := (hb1.frozen (p := ⟨w.heap.size, 2, none⟩) (by simp)).trans (by simp)
    have g3 : w1.frozen? ⟨w.heap.size, 3, none⟩ = false := (hb1.frozen (p := ⟨w.heap.size, 3, none⟩) (by simp)).trans (by simp)
    go_wp2_with (first | (go_at_call 77; refine (within_any _ _ _ _).mono ?_; rintro e w' ⟨rfl, rfl⟩) | go_in)
    all_goals exact bodyPost_ret (v := .tuple #[.agg #[.int .i64 0, .string ⟨#[]⟩, .string ⟨#[]⟩, .int .i64 0], .int .i64 2]) (by simp [results, Try.results31, go_sem, *]) rfl ⟨rfl, by repeat (first | assumption | exact below_new _ _ | exact (below_new _ _).alloc (by simp) _ | refine Below.alloc ?_ (by first | assumption | (simp; omega) | exact Below.size (by assumption)) _ | refine Below.setCell ?_ (by first | exact Nat.le_refl _ | (simp; done) | (simp; omega)) _)⟩
  by_cases e2 : inB k 0 ((n : Int) - 1) = true
  case neg =>
    obtain ⟨rfl, rfl, rfl, rfl, rfl⟩ : y0 = 0 ∧ y1 = ⟨#[]⟩ ∧ y2 = ⟨#[]⟩ ∧ y3 = 0 ∧ c = 2 := by unfold revRes at hv; rw [if_pos e0, if_pos e1, if_neg e2] at hv; simpa [eq_comm] using hv
    have e2n : (inB k 0 ((n : Int) - 1)) = false := by simpa using e2
    clear hv e2
    have hkn : k < 0 ∨ (0 ≤ k ∧ (n : Int) ≤ k) := by unfold inB at e2n; simp only [Bool.and_eq_false_iff, decide_eq_false_iff_not] at e2n; omega
    clear e2n
    rcases (show k < 0 ∨ (0 ≤ k ∧ decide (k < (n : Int)) = false) from hkn.imp id (fun h => ⟨h.1, decide_eq_false (by omega)⟩)) with hkn4 | ⟨hkn1, hkn2⟩
    all_goals
      go_enter Try.func31, Try.ntmps31
      go_wp2_with fail
      refine (ValidEntry_any _ _ F0 F1 F2 F3 _ _ hn (H1.out.alloc _) HS1.out HS2.out).mono ?_
      rintro e w1 ⟨rfl, hb1⟩
      have C1 := (below_new w (.cells #[.int .i64 0, .string ⟨#[]⟩, .string ⟨#[]⟩, .int .i64 0] 46)).trans (hb1.mono (by simp))
      have hs1 : w.heap.size < w1.heap.size := by have := hb1.size; simp at this; omega
      have b0 : w1.cell? ⟨w.heap.size, 0, none⟩ = some (.int .i64 0) := (bcell hb1 _ _ (by simp)).trans (by simp)
      have b1 : w1.cell? ⟨w.heap.size, 1, none⟩ = some (.string ⟨#[]⟩) := (bcell hb1 _ _ (by simp)).trans (by simp)
      have b2 : w1.cell? ⟨w.heap.size, 2, none⟩ = some (.string ⟨#[]⟩) := (bcell hb1 _ _ (by simp)).trans (by simp)
      have b3 : w1.cell? ⟨w.heap.size, 3, none⟩ = some (.int .i64 0) := (bcell hb1 _ _ (by simp)).trans (by simp)
      have g0 : w1.frozen? ⟨w.heap.size, 0, none⟩ = false := (hb1.frozen (p := ⟨w.heap.size, 0, none⟩) (by simp)).trans (by simp)
      have g1 : w1.frozen? ⟨w.heap.size, 1, none⟩ = false := (hb1.frozen (p := ⟨w.heap.size, 1, none⟩) (by simp)).trans (by simp)
      have g2 : w1.frozen? ⟨w.heap.size, 2, none⟩ = false := (hb1.frozen (p := ⟨w.heap.size, 2, none⟩) (by simp)).trans (by simp)
      have g3 : w1.frozen? ⟨w.heap.size, 3, none⟩ = false := (hb1.frozen (p := ⟨w.heap.size, 3, none⟩) (by simp)).trans (by simp)
      go_wp2_with (first | (go_at_call 77; refine (within_any _ _ _ _).mono ?_; rintro e w' ⟨rfl, rfl⟩) | go_in)
      all_goals exact bodyPost_ret (v := .tuple #[.agg #[.int .i64 0, .string ⟨#[]⟩, .string ⟨#[]⟩, .int .i64 0], .int .i64 2]) (by simp [results, Try.results31, go_sem, *]) rfl ⟨rfl, by repeat (first | assumption | exact below_new _ _ | exact (below_new _ _).alloc (by simp) _ | refine Below.alloc ?_ (by first | assumption | (simp; omega) | exact Below.size (by assumption)) _ | refine Below.setCell ?_ (by first | exact Nat.le_refl _ | (simp; done) | (simp; omega)) _)⟩
  have e2i := e2
  unfold inB at e2i
  simp only [Bool.and_eq_true, decide_eq_true_eq] at e2i
  obtain ⟨q, rfl⟩ : ∃ q : Nat, k = (q : Int) := ⟨k.toNat, by omega⟩
  have hq : q < n := by omega
  have hqi : (q : Int) < (n : Int) := by omega
  have hq0 : (0 : Int) ≤ (q : Int) := by omega
  by_cases e3 : decide (F0 q ≤ day) = true
  case neg =>
    obtain ⟨rfl, rfl, rfl, rfl, rfl⟩ : y0 = 0 ∧ y1 = ⟨#[]⟩ ∧ y2 = ⟨#[]⟩ ∧ y3 = 0 ∧ c = 6 := by unfold revRes at hv; simp only [Int.toNat_natCast] at hv; rw [if_pos e0, if_pos e1, if_pos e2, if_neg e3] at hv; simpa [eq_comm] using hv
    have e3n : (decide (F0 q ≤ day)) = false := by simpa using e3
    clear hv e3
    have e3l : day < F0 q := by simpa using e3n
    obtain ⟨c0, c1, c2, c3⟩ := HR1.out q hq
    simp only [Nat.zero_add] at c0 c1 c2 c3
    go_enter Try.func31, Try.ntmps31
    go_wp2_with fail
    refine (ValidEntry_any _ _ F0 F1 F2 F3 _ _ hn (H1.out.alloc _) HS1.out HS2.out).mono ?_
    rintro e w1 ⟨rfl, hb1⟩
    have C1 := (below_new w (.cells #[.int .i64 0, .string ⟨#[]⟩, .string ⟨#[]⟩, .int .i64 0] 46)).trans (hb1.mono (by simp))
    have hs1 : w.heap.size < w1.heap.size := by have := hb1.size; simp at this; omega
    have b0 : w1.cell? ⟨w.heap.size, 0, none⟩ = some (.int .i64 0) := (bcell hb1 _ _ (by simp)).trans (by simp)
    have b1 : w1.cell? ⟨w.heap.size, 1, none⟩ = some (.string ⟨#[]⟩) := (bcell hb1 _ _ (by simp)).trans (by simp)
    have b2 : w1.cell? ⟨w.heap.size, 2, none⟩ = some (.string ⟨#[]⟩) := (bcell hb1 _ _ (by simp)).trans (by simp)
    have b3 : w1.cell? ⟨w.heap.size, 3, none⟩ = some (.int .i64 0) := (bcell hb1 _ _ (by simp)).trans (by simp)
    have g0 : w1.frozen? ⟨w.heap.size, 0, none⟩ = false := (hb1.frozen (p := ⟨w.heap.size, 0, none⟩) (by simp)).trans (by simp)
    have g1 : w1.frozen? ⟨w.heap.size, 1, none⟩ = false := (hb1.frozen (p := ⟨w.heap.size, 1, none⟩) (by simp)).trans (by simp)
    have g2 : w1.frozen? ⟨w.heap.size, 2, none⟩ = false := (hb1.frozen (p := ⟨w.heap.size, 2, none⟩) (by simp)).trans (by simp)
    have g3 : w1.frozen? ⟨w.heap.size, 3, none⟩ = false := (hb1.frozen (p := ⟨w.heap.size, 3, none⟩) (by simp)).trans (by simp)
    have d0 : w1.cell? ⟨g, q * 4, none⟩ = some (.int .i64 (F0 q)) := (bcell C1 _ _ hl1).trans c0
    have d1 : w1.cell? ⟨g, q * 4 + 1, none⟩ = some (.string (F1 q)) := (bcell C1 _ _ hl1).trans c1
    have d2 : w1.cell? ⟨g, q * 4 + 2, none⟩ = some (.string (F2 q)) := (bcell C1 _ _ hl1).trans c2
    have d3 : w1.cell? ⟨g, q * 4 + 3, none⟩ = some (.int .i64 (F3 q)) := (bcell C1 _ _ hl1).trans c3
    clear c0 c1 c2 c3
    go_wp2_with (first | (go_at_call 77; refine (within_any _ _ _ _).mono ?_; rintro e w' ⟨rfl, rfl⟩) | go_in)
    all_goals exact bodyPost_ret (v := .tuple #[.agg #[.int .i64 0, .string ⟨#[]⟩, .string ⟨#[]⟩, .int .i64 0], .int .i64 6]) (by simp [results, Try.results31, go_sem, *]) rfl ⟨rfl, by repeat (first | assumption | exact below_new _ _ | exact (below_new _ _).alloc (by simp) _ | refine Below.alloc ?_ (by first | assumption | (simp; omega) | exact Below.size (by assumption)) _ | refine Below.setCell ?_ (by first | exact Nat.le_refl _ | (simp; done) | (simp; omega)) _)⟩
  obtain ⟨rfl, rfl, rfl, rfl, rfl⟩ : y0 = day ∧ y1 = F2 q ∧ y2 = F1 q ∧ y3 = F3 q ∧ c = 0 := by unfold revRes at hv; simp only [Int.toNat_natCast] at hv; rw [if_pos e0, if_pos e1, if_pos e2, if_pos e3] at hv; simpa [eq_comm] using hv
  clear hv
  have e3l : F0 q ≤ y0 := by simpa using e3
  have e3d : decide (y0 < F0 q) = false := by simp; omega
  obtain ⟨c0, c1, c2, c3⟩ := HR1.out q hq
  simp only [Nat.zero_add] at c0 c1 c2 c3
  go_enter Try.func31, Try.ntmps31
  go_wp2_with fail
  refine (ValidEntry_any _ _ F0 F1 F2 F3 _ _ hn (H1.out.alloc _) HS1.out HS2.out).mono ?_
  rintro e w1 ⟨rfl, hb1⟩
  have C1 := (below_new w (.cells #[.int .i64 0, .string ⟨#[]⟩, .string ⟨#[]⟩, .int .i64 0] 46)).trans (hb1.mono (by simp))
  have hs1 : w.heap.size < w1.heap.size := by have := hb1.size; simp at this; omega
  have b0 : w1.cell? ⟨w.heap.size, 0, none⟩ = some (.int .i64 0) := (bcell hb1 _ _ (by simp)).trans (by simp)
  have b1 : w1.cell? ⟨w.heap.size, 1, none⟩ = some (.string ⟨#[]⟩) := (bcell hb1 _ _ (by simp)).trans (by simp)
  have b2 : w1.cell? ⟨w.heap.size, 2, none⟩ = some (.string ⟨#[]⟩) := (bcell hb1 _ _ (by simp)).trans (by simp)
  have b3 : w1.cell? ⟨w.heap.size, 3, none⟩ = some (.int .i64 0) := (bcell hb1 _ _ (by simp)).trans (by simp)
  have g0 : w1.frozen? ⟨w.heap.size, 0, none⟩ = false := (hb1.frozen (p := ⟨w.heap.size, 0, none⟩) (by simp)).trans (by simp)
  have g1 : w1.frozen? ⟨w.heap.size, 1, none⟩ = false := (hb1.frozen (p := ⟨w.heap.size, 1, none⟩) (by simp)).trans (by simp)
  have g2 : w1.frozen? ⟨w.heap.size, 2, none⟩ = false := (hb1.frozen (p := ⟨w.heap.size, 2, none⟩) (by simp)).trans (by simp)
  have g3 : w1.frozen? ⟨w.heap.size, 3, none⟩ = false := (hb1.frozen (p := ⟨w.heap.size, 3, none⟩) (by simp)).trans (by simp)
  have d0 : w1.cell? ⟨g, q * 4, none⟩ = some (.int .i64 (F0 q)) := (bcell C1 _ _ hl1).trans c0
  have d1 : w1.cell? ⟨g, q * 4 + 1, none⟩ = some (.string (F1 q)) := (bcell C1 _ _ hl1).trans c1
  have d2 : w1.cell? ⟨g, q * 4 + 2, none⟩ = some (.string (F2 q)) := (bcell C1 _ _ hl1).trans c2
  have d3 : w1.cell? ⟨g, q * 4 + 3, none⟩ = some (.int .i64 (F3 q)) := (bcell C1 _ _ hl1).trans c3
  clear c0 c1 c2 c3
  go_wp2_with (first | (go_at_call 77; refine (within_any _ _ _ _).mono ?_; rintro e w' ⟨rfl, rfl⟩) | go_in)
  all_goals exact bodyPost_ret (v := .tuple #[.agg #[.int .i64 y0, .string (F2 q), .string (F1 q), .int .i64 (F3 q)], .int .i64 0]) (by simp [results, Try.results31, go_sem, *]) rfl ⟨rfl, by repeat (first | assumption | exact below_new _ _ | exact (below_new _ _).alloc (by simp) _ | refine Below.alloc ?_ (by first | assumption | (simp; omega) | exact Below.size (by assumption)) _ | refine Below.setCell ?_ (by first | exact Nat.le_refl _ | (simp; done) | (simp; omega)) _)⟩
end Go.Proofs.Ytllmillhdmknpaa
