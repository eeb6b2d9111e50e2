/- The contracts of WorstPaper. -/
import Derived.Test.YtkoijgeacekeaaaWorst
namespace Go.Proofs.Ytkoijgeacekeaaa
open Go.RowKit
attribute [local go_sem ↓] Go.wp_at_zero Go.wp_at_succ
set_option linter.unusedVariables false

theorem wst_lt (s : Nat → Int) : ∀ i, (wst s i).1 < i
  | 0 => by show (-1 : Int) < 0; omega
  | i + 1 => by
    have ih := wst_lt s i
    show (if _ then _ else _ : Int × Int).1 < _
    split
    · show (i : Int) < _; omega
    · omega

theorem paper_le {n : Nat} {F0 : Nat → ByteArray} {F1 : Nat → ByteArray} {F2 : Nat → Int} {F3 : Nat → Int} {F4 : Nat → Int} (h : listPaper n F0 F1 F2 F3 F4 = true) (k : Nat) (hk : k < n) : F2 k ≤ F3 k := by
  have h1 := listPaper_at h k hk
  unfold vPaper at h1
  simp only [Bool.and_eq_true, decide_eq_true_eq] at h1
  exact h1.2.2.2.2.1

/-- The name of the worst paper. -/
def wpVal (F0 : Nat → ByteArray) (b : Int) : ByteArray × Int := if b < 0 then (ByteArray.empty, 3) else (F0 b.toNat, 0)

/-- What the function hands back. -/
def wpRes (n : Nat) (F0 : Nat → ByteArray) (F1 : Nat → ByteArray) (F2 : Nat → Int) (F3 : Nat → Int) (F4 : Nat → Int)  : ByteArray × Int := (if listPaper n F0 F1 F2 F3 F4 = true then (wpVal F0 (wst (fun i => against F1 F2 F3 F4 i n) n).1) else (ByteArray.empty, 1))

set_option maxHeartbeats 2000000 in
theorem specWorstPaper_any (g n : Nat) (F0 : Nat → ByteArray) (F1 : Nat → ByteArray) (F2 : Nat → Int) (F3 : Nat → Int) (F4 : Nat → Int)  (v1 : ByteArray) (v2 : Int) (w : World) (t1 : TypeId) (hn : n ≤ 1048576) (h1 : w.rowIs g t1 (n * 5) (flat 5 (rowPaper F0 F1 F2 F3 F4))) (hS0 : ∀ i, i < n → (F0 i).size ≤ maxLen) (hS1 : ∀ i, i < n → (F1 i).size ≤ maxLen)  (hv : wpRes n F0 F1 F2 F3 F4  = (v1, v2)) :
    Calls Try.prog 16 #[.slice (some ⟨g, 0, none⟩) n n] w fun e w' => e = .returned (.tuple #[.string v1, .int .i64 v2]) ∧ Below w.heap.size w w' := by
  have hl1 := h1.lt
  have HR1 := Lib.hid (RdPaper.of_row h1)
  have H1 := Lib.hid h1
  have HS0 := Lib.hid hS0
  have HS1 := Lib.hid hS1
  clear h1 hS0 hS1
  by_cases e0 : listPaper n F0 F1 F2 F3 F4 = true
  case neg =>
    obtain ⟨rfl, rfl⟩ : v1 = ByteArray.empty ∧ v2 = 1 := by unfold wpRes at hv; rw [if_neg e0] at hv; simpa [eq_comm] using hv
    have e0n : (listPaper n F0 F1 F2 F3 F4) = false := by simpa using e0
    clear hv e0
    go_enter Try.func16, Try.ntmps16
    go_wp2_with fail
    refine (OkPaper_any _ _ F0 F1 F2 F3 F4 _ _ hn H1.out HS0.out HS1.out).mono ?_
    rintro e w1 ⟨rfl, hb1⟩
    go_wp2_with (first | (go_at_call 94; refine (l00In_any _ _ _ _).mono ?_; rintro e w' ⟨rfl, rfl⟩) | go_in)
    go_ret2
    exact ⟨rfl, hb1⟩
  replace hv : (wpVal F0 (wst (fun i => against F1 F2 F3 F4 i n) n).1) = (v1, v2) := by unfold wpRes at hv; rw [if_pos e0] at hv; exact hv
  have HV := Lib.hid hv
  clear hv
  go_enter Try.func16, Try.ntmps16
  go_wp2_with fail
  refine (OkPaper_any _ _ F0 F1 F2 F3 F4 _ _ hn H1.out HS0.out HS1.out).mono ?_
  rintro e w1 ⟨rfl, hb1⟩
  have H2 := Lib.hid (row_below H1.out hb1 H1.out.lt)
  have hlw := wst_lt (fun i => against F1 F2 F3 F4 i n) n
  have hle := fun k hk => paper_le e0 k hk
  have HL := Lib.hid hle
  clear hle
  go_wp2_with fail
  refine (l20Worst_any _ _ F0 F1 F2 F3 F4 _ _ hn H2.out HL.out).mono ?_
  rintro e w2 ⟨rfl, hb2⟩
  have hv := HV.out
  clear HV HL
  generalize (wst (fun i => against F1 F2 F3 F4 i n) n).1 = b at *
  by_cases hb0 : b < 0
  · have hv2 : v1 = ByteArray.empty ∧ v2 = 3 := by unfold wpVal at hv; rw [if_pos hb0] at hv; simpa [eq_comm] using hv
    clear hv
    obtain ⟨rfl, rfl⟩ := hv2
    go_wp2
    go_ret2
    exact ⟨rfl, hb1.trans (hb2.mono hb1.size)⟩
  · obtain ⟨bn, rfl⟩ := Int.eq_ofNat_of_zero_le (show 0 ≤ b by omega)
    have hv2 : v1 = F0 bn ∧ v2 = 0 := by unfold wpVal at hv; rw [if_neg hb0] at hv; simpa [eq_comm] using hv
    clear hv
    obtain ⟨rfl, rfl⟩ := hv2
    have hbn : bn < n := by omega
    obtain ⟨c0, _, _, _, _⟩ := HR1.out bn hbn
    have hbx := hb1.trans (hb2.mono hb1.size)
    rw [← bcell hbx _ _ hl1] at c0
    simp only [Nat.zero_add] at c0
    go_wp2
    go_ret2
    exact ⟨rfl, hbx⟩

set_option maxHeartbeats 2000000 in
theorem implWorstPaper_any (g n : Nat) (F0 : Nat → ByteArray) (F1 : Nat → ByteArray) (F2 : Nat → Int) (F3 : Nat → Int) (F4 : Nat → Int)  (v1 : ByteArray) (v2 : Int) (w : World) (t1 : TypeId) (hn : n ≤ 1048576) (h1 : w.rowIs g t1 (n * 5) (flat 5 (rowPaper F0 F1 F2 F3 F4))) (hS0 : ∀ i, i < n → (F0 i).size ≤ maxLen) (hS1 : ∀ i, i < n → (F1 i).size ≤ maxLen)  (hv : wpRes n F0 F1 F2 F3 F4  = (v1, v2)) :
    Calls Try.prog 18 #[.slice (some ⟨g, 0, none⟩) n n] w fun e w' => e = .returned (.tuple #[.string v1, .int .i64 v2]) ∧ Below w.heap.size w w' := by
  have hl1 := h1.lt
  have HR1 := Lib.hid (RdPaper.of_row h1)
  have H1 := Lib.hid h1
  have HS0 := Lib.hid hS0
  have HS1 := Lib.hid hS1
  clear h1 hS0 hS1
  by_cases e0 : listPaper n F0 F1 F2 F3 F4 = true
  case neg =>
    obtain ⟨rfl, rfl⟩ : v1 = ByteArray.empty ∧ v2 = 1 := by unfold wpRes at hv; rw [if_neg e0] at hv; simpa [eq_comm] using hv
    have e0n : (listPaper n F0 F1 F2 F3 F4) = false := by simpa using e0
    clear hv e0
    go_enter Try.func18, Try.ntmps18
    go_wp2_with fail
    refine (ValidPaper_any _ _ F0 F1 F2 F3 F4 _ _ hn H1.out HS0.out HS1.out).mono ?_
    rintro e w1 ⟨rfl, hb1⟩
    go_wp2_with (first | (go_at_call 61; refine (within_any _ _ _ _).mono ?_; rintro e w' ⟨rfl, rfl⟩) | go_in)
    go_ret2
    exact ⟨rfl, hb1⟩
  replace hv : (wpVal F0 (wst (fun i => against F1 F2 F3 F4 i n) n).1) = (v1, v2) := by unfold wpRes at hv; rw [if_pos e0] at hv; exact hv
  have HV := Lib.hid hv
  clear hv
  go_enter Try.func18, Try.ntmps18
  go_wp2_with fail
  refine (ValidPaper_any _ _ F0 F1 F2 F3 F4 _ _ hn H1.out HS0.out HS1.out).mono ?_
  rintro e w1 ⟨rfl, hb1⟩
  have H2 := Lib.hid (row_below H1.out hb1 H1.out.lt)
  have hlw := wst_lt (fun i => against F1 F2 F3 F4 i n) n
  have hle := fun k hk => paper_le e0 k hk
  have HL := Lib.hid hle
  clear hle
  go_wp2_with fail
  refine (worst_any _ _ F0 F1 F2 F3 F4 _ _ hn H2.out HL.out).mono ?_
  rintro e w2 ⟨rfl, hb2⟩
  have hv := HV.out
  clear HV HL
  generalize (wst (fun i => against F1 F2 F3 F4 i n) n).1 = b at *
  by_cases hb0 : b < 0
  · have hv2 : v1 = ByteArray.empty ∧ v2 = 3 := by unfold wpVal at hv; rw [if_pos hb0] at hv; simpa [eq_comm] using hv
    clear hv
    obtain ⟨rfl, rfl⟩ := hv2
    go_wp2
    go_ret2
    exact ⟨rfl, hb1.trans (hb2.mono hb1.size)⟩
  · obtain ⟨bn, rfl⟩ := Int.eq_ofNat_of_zero_le (show 0 ≤ b by omega)
    have hv2 : v1 = F0 bn ∧ v2 = 0 := by unfold wpVal at hv; rw [if_neg hb0] at hv; simpa [eq_comm] using hv
    clear hv
    obtain ⟨rfl, rfl⟩ := hv2
    have hbn : bn < n := by omega
    obtain ⟨c0, _, _, _, _⟩ := HR1.out bn hbn
    have hbx := hb1.trans (hb2.mono hb1.size)
    rw [← bcell hbx _ _ hl1] at c0
    simp only [Nat.zero_add] at c0
    go_wp2
    go_ret2
    exact ⟨rfl, hbx⟩
end Go.Proofs.Ytkoijgeacekeaaa
