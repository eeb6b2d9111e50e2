/- The contracts of the functions about drying: the even moisture of a humidity, the change of a day. -/
import Derived.Test.YtlpjjhjbejjddaaStackV
import Derived.Test.YtlpjjhjbejjddaaSums
import Derived.Test.YtlpjjhjbejjddaaMore
import Derived.Test.YtlpjjhjbejjddaaDiv
namespace Go.Proofs.Ytlpjjhjbejjddaa
open Go.RowKit
set_option linter.unusedVariables false

/-- A number on a line through two points, or that of the nearer end. -/
def lineV (x0 y0 x1 y1 x : Int) : Int := if x ≤ x0 then y0 else if x1 ≤ x then y1 else y0 + rdiv ((y1 - y0) * (x - x0)) (x1 - x0)
theorem rdiv_le {a b c : Int} (ha : 0 ≤ a) (hb : 1 ≤ b) (hc : 0 ≤ c) (h : 2 * a < 2 * b * c + b) : 0 ≤ rdiv a b ∧ rdiv a b ≤ c := by
  unfold rdiv
  rw [if_neg (by omega)]
  refine ⟨Int.ediv_nonneg (by omega) (by omega), ?_⟩
  have h1 : (2 * a + b) / (2 * b) < c + 1 := by
    apply Int.ediv_lt_of_lt_mul (by omega)
    have : (c + 1) * (2 * b) = 2 * b * c + 2 * b := by rw [Int.add_mul, Int.one_mul, Int.mul_comm c]
    omega
  omega
theorem line_bd {x0 y0 x1 y1 x : Int} (h0 : x0 < x1) (h1 : 0 ≤ y0) (h2 : y0 ≤ y1) (h3 : y1 ≤ 280) : 0 ≤ lineV x0 y0 x1 y1 x ∧ lineV x0 y0 x1 y1 x ≤ 280 := by
  unfold lineV
  split
  · omega
  split
  · omega
  rename_i a b
  have hm : 0 ≤ (y1 - y0) * (x - x0) := Int.mul_nonneg (by omega) (by omega)
  have hm2 : (y1 - y0) * (x - x0) ≤ (y1 - y0) * (x1 - x0) := Int.mul_le_mul_of_nonneg_left (by omega) (by omega)
  have := rdiv_le (a := (y1 - y0) * (x - x0)) (b := x1 - x0) (c := y1 - y0) hm (by omega) (by omega) (by
    have e : 2 * (x1 - x0) * (y1 - y0) = 2 * ((y1 - y0) * (x1 - x0)) := by rw [Int.mul_assoc, Int.mul_comm (x1 - x0)]
    omega)
  omega

set_option maxHeartbeats 1000000 in
theorem blend_any (x0 y0 x1 y1 x : Int) (w : World) (h0 : 0 ≤ x0) (h1 : x0 < x1) (h2 : x1 ≤ 1000) (h3 : 0 ≤ y0) (h4 : y0 ≤ y1) (h5 : y1 ≤ 280) (h6 : 0 ≤ x) (h7 : x ≤ 1000) :
    Calls Try.prog 146 #[.int .i64 x0, .int .i64 y0, .int .i64 x1, .int .i64 y1, .int .i64 x] w fun e w' => e = .returned (.int .i64 (lineV x0 y0 x1 y1 x)) ∧ w = w' := by
  have hb := line_bd (x := x) h1 h3 h4 h5
  have hx : decide (x1 ≤ x0) = false := by simp; omega
  by_cases ha : x ≤ x0
  · have HF := Lib.hid (show lineV x0 y0 x1 y1 x = y0 by unfold lineV; rw [if_pos ha])
    clear hb
    go_enter Try.func146, Try.ntmps146
    go_wp2
    go_ret
    exact ⟨by rw [HF.out]; rfl, rfl⟩
  · have han : decide (x ≤ x0) = false := by simpa using ha
    by_cases hc : x1 ≤ x
    · have HF := Lib.hid (show lineV x0 y0 x1 y1 x = y1 by unfold lineV; rw [if_neg ha, if_pos hc])
      clear hb
      go_enter Try.func146, Try.ntmps146
      go_wp2
      go_ret
      exact ⟨by rw [HF.out]; rfl, rfl⟩
    · have hl := (show lineV x0 y0 x1 y1 x = y0 + rdiv ((y1 - y0) * (x - x0)) (x1 - x0) by unfold lineV; rw [if_neg ha, if_neg hc])
      rw [hl] at hb
      have HF := Lib.hid hl
      clear hl
      obtain ⟨hb1, hb2⟩ := hb
      have m1 : 0 ≤ (y1 - y0) * (x - x0) := Int.mul_nonneg (by omega) (by omega)
      have m2 : (y1 - y0) * (x - x0) ≤ 280 * 1000 := Int.mul_le_mul (by omega) (by omega) (by omega) (by omega)
      go_enter Try.func146, Try.ntmps146
      go_wp2_with (go_at_call 74; refine (divRound_any _ _ _ (by omega) (by omega) (by omega) (by omega)).mono ?_; rintro e w' ⟨rfl, rfl⟩)
      go_ret
      exact ⟨by rw [HF.out]; rfl, rfl⟩

set_option maxHeartbeats 1000000 in
theorem l01Line_any (x0 y0 x1 y1 x : Int) (w : World) (h0 : 0 ≤ x0) (h1 : x0 < x1) (h2 : x1 ≤ 1000) (h3 : 0 ≤ y0) (h4 : y0 ≤ y1) (h5 : y1 ≤ 280) (h6 : 0 ≤ x) (h7 : x ≤ 1000) :
    Calls Try.prog 127 #[.int .i64 x0, .int .i64 y0, .int .i64 x1, .int .i64 y1, .int .i64 x] w fun e w' => e = .returned (.int .i64 (lineV x0 y0 x1 y1 x)) ∧ w = w' := by
  have hb := line_bd (x := x) h1 h3 h4 h5
  have hx : decide (x1 ≤ x0) = false := by simp; omega
  by_cases ha : x ≤ x0
  · have HF := Lib.hid (show lineV x0 y0 x1 y1 x = y0 by unfold lineV; rw [if_pos ha])
    clear hb
    go_enter Try.func127, Try.ntmps127
    go_wp2
    go_ret
    exact ⟨by rw [HF.out]; rfl, rfl⟩
  · have han : decide (x ≤ x0) = false := by simpa using ha
    by_cases hc : x1 ≤ x
    · have HF := Lib.hid (show lineV x0 y0 x1 y1 x = y1 by unfold lineV; rw [if_neg ha, if_pos hc])
      clear hb
      go_enter Try.func127, Try.ntmps127
      go_wp2
      go_ret
      exact ⟨by rw [HF.out]; rfl, rfl⟩
    · have hl := (show lineV x0 y0 x1 y1 x = y0 + rdiv ((y1 - y0) * (x - x0)) (x1 - x0) by unfold lineV; rw [if_neg ha, if_neg hc])
      rw [hl] at hb
      have HF := Lib.hid hl
      clear hl
      obtain ⟨hb1, hb2⟩ := hb
      have m1 : 0 ≤ (y1 - y0) * (x - x0) := Int.mul_nonneg (by omega) (by omega)
      have m2 : (y1 - y0) * (x - x0) ≤ 280 * 1000 := Int.mul_le_mul (by omega) (by omega) (by omega) (by omega)
      go_enter Try.func127, Try.ntmps127
      go_wp2_with (go_at_call 71; refine (l01Div_any _ _ _ (by omega) (by omega) (by omega) (by omega)).mono ?_; rintro e w' ⟨rfl, rfl⟩)
      go_ret
      exact ⟨by rw [HF.out]; rfl, rfl⟩

/-- The even moisture. -/
def evenV (h : Int) : Int := if h ≤ 300 then lineV 0 0 300 60 h else if h ≤ 600 then lineV 300 60 600 110 h else if h ≤ 800 then lineV 600 110 800 160 h else lineV 800 160 1000 280 h
theorem even_bd (h : Int) : 0 ≤ evenV h ∧ evenV h ≤ 280 := by
  unfold evenV
  split
  · exact line_bd (by omega) (by omega) (by omega) (by omega)
  split
  · exact line_bd (by omega) (by omega) (by omega) (by omega)
  split
  · exact line_bd (by omega) (by omega) (by omega) (by omega)
  · exact line_bd (by omega) (by omega) (by omega) (by omega)

set_option maxHeartbeats 4000000 in
theorem even_any (h : Int) (w : World) (h1 : 0 ≤ h) (h2 : h ≤ 1000) :
    Calls Try.prog 129 #[.int .i64 h] w fun e w' => e = .returned (.int .i64 (evenV h)) ∧ Below w.heap.size w w' := by
  go_enter Try.func129, Try.ntmps129
  go_wp2
  go_loop [4] (fun i => ∃ z : Int, i = .int .i64 z ∧ ((z = 1) ∨ (z = 2 ∧ 300 < h) ∨ (z = 3 ∧ 600 < h) ∨ (z = 4 ∧ 800 < h))) (fun i => 4 - (intOf i).toNat)
  case atStart => exact ⟨1, rfl, .inl rfl⟩
  case round =>
    obtain ⟨z, rfl, hz⟩ := hrel
    rcases hz with rfl | ⟨rfl, hz⟩ | ⟨rfl, hz⟩ | ⟨rfl, hz⟩
    · by_cases hc : 300 < h
      · go_wp2
        go_round
        case rel => exact ⟨2, rfl, .inr (.inl ⟨rfl, hc⟩)⟩
        case measure => simp [intOf]
      · have hcn : decide (300 < h) = false := by simpa using hc
        have HF := Lib.hid (show evenV h = lineV 0 0 300 60 h by unfold evenV; rw [if_pos (by omega)])
        go_wp2
        go_big_quiet ((go_at_call 146; exact still_quiet (blend_any _ _ _ _ _ _ (by omega) (by omega) (by omega) (by omega) (by omega) (by omega) h1 h2)))
        go_wp2
        go_ret
        exact ⟨by rw [HF.out]; rfl, below_drewN (below_new _ _) _⟩
    · by_cases hc : 600 < h
      · go_wp2
        go_round
        case rel => exact ⟨3, rfl, .inr (.inr (.inl ⟨rfl, hc⟩))⟩
        case measure => simp [intOf]
      · have hcn : decide (600 < h) = false := by simpa using hc
        have HF := Lib.hid (show evenV h = lineV 300 60 600 110 h by unfold evenV; rw [if_neg (by omega), if_pos (by omega)])
        go_wp2
        go_big_quiet ((go_at_call 146; exact still_quiet (blend_any _ _ _ _ _ _ (by omega) (by omega) (by omega) (by omega) (by omega) (by omega) h1 h2)))
        go_wp2
        go_ret
        exact ⟨by rw [HF.out]; rfl, below_drewN (below_new _ _) _⟩
    · by_cases hc : 800 < h
      · go_wp2
        go_round
        case rel => exact ⟨4, rfl, .inr (.inr (.inr ⟨rfl, hc⟩))⟩
        case measure => simp [intOf]
      · have hcn : decide (800 < h) = false := by simpa using hc
        have HF := Lib.hid (show evenV h = lineV 600 110 800 160 h by unfold evenV; rw [if_neg (by omega), if_neg (by omega), if_pos (by omega)])
        go_wp2
        go_big_quiet ((go_at_call 146; exact still_quiet (blend_any _ _ _ _ _ _ (by omega) (by omega) (by omega) (by omega) (by omega) (by omega) h1 h2)))
        go_wp2
        go_ret
        exact ⟨by rw [HF.out]; rfl, below_drewN (below_new _ _) _⟩
    · have HF := Lib.hid (show evenV h = lineV 800 160 1000 280 h by unfold evenV; rw [if_neg (by omega), if_neg (by omega), if_neg (by omega)])
      go_wp2
      go_big_quiet ((go_at_call 146; exact still_quiet (blend_any _ _ _ _ _ _ (by omega) (by omega) (by omega) (by omega) (by omega) (by omega) h1 h2)))
      go_wp2
      go_ret
      exact ⟨by rw [HF.out]; rfl, below_drewN (below_new _ _) _⟩

set_option maxHeartbeats 4000000 in
theorem l04Even_any (h : Int) (w : World) (h1 : 0 ≤ h) (h2 : h ≤ 1000) :
    Calls Try.prog 78 #[.int .i64 h] w fun e w' => e = .returned (.int .i64 (evenV h)) ∧ Below w.heap.size w w' := by
  go_enter Try.func78, Try.ntmps78
  go_wp2
  go_loop [5] (fun i => ∃ z : Int, i = .int .i64 z ∧ ((z = 1) ∨ (z = 2 ∧ 300 < h) ∨ (z = 3 ∧ 600 < h) ∨ (z = 4 ∧ 800 < h))) (fun i => 4 - (intOf i).toNat)
  case atStart => exact ⟨1, rfl, .inl rfl⟩
  case round =>
    obtain ⟨z, rfl, hz⟩ := hrel
    rcases hz with rfl | ⟨rfl, hz⟩ | ⟨rfl, hz⟩ | ⟨rfl, hz⟩
    · by_cases hc : h ≤ 300
      · have HF := Lib.hid (show evenV h = lineV 0 0 300 60 h by unfold evenV; rw [if_pos hc])
        go_wp2
        go_big_quiet ((go_at_call 127; exact still_quiet (l01Line_any _ _ _ _ _ _ (by omega) (by omega) (by omega) (by omega) (by omega) (by omega) h1 h2)))
        go_wp2
        go_ret
        exact ⟨by rw [HF.out]; rfl, below_drewN ((below_new _ _).alloc (by simp) _) _⟩
      · have hcn : decide (h ≤ 300) = false := by simpa using hc
        go_wp2
        go_round
        case rel => exact ⟨2, rfl, .inr (.inl ⟨rfl, by omega⟩)⟩
        case measure => simp [intOf]
    · by_cases hc : h ≤ 600
      · have HF := Lib.hid (show evenV h = lineV 300 60 600 110 h by unfold evenV; rw [if_neg (by omega), if_pos hc])
        go_wp2
        go_big_quiet ((go_at_call 127; exact still_quiet (l01Line_any _ _ _ _ _ _ (by omega) (by omega) (by omega) (by omega) (by omega) (by omega) h1 h2)))
        go_wp2
        go_ret
        exact ⟨by rw [HF.out]; rfl, below_drewN ((below_new _ _).alloc (by simp) _) _⟩
      · have hcn : decide (h ≤ 600) = false := by simpa using hc
        go_wp2
        go_round
        case rel => exact ⟨3, rfl, .inr (.inr (.inl ⟨rfl, by omega⟩))⟩
        case measure => simp [intOf]
    · by_cases hc : h ≤ 800
      · have HF := Lib.hid (show evenV h = lineV 600 110 800 160 h by unfold evenV; rw [if_neg (by omega), if_neg (by omega), if_pos hc])
        go_wp2
        go_big_quiet ((go_at_call 127; exact still_quiet (l01Line_any _ _ _ _ _ _ (by omega) (by omega) (by omega) (by omega) (by omega) (by omega) h1 h2)))
        go_wp2
        go_ret
        exact ⟨by rw [HF.out]; rfl, below_drewN ((below_new _ _).alloc (by simp) _) _⟩
      · have hcn : decide (h ≤ 800) = false := by simpa using hc
        go_wp2
        go_round
        case rel => exact ⟨4, rfl, .inr (.inr (.inr ⟨rfl, by omega⟩))⟩
        case measure => simp [intOf]
    · have HF := Lib.hid (show evenV h = lineV 800 160 1000 280 h by unfold evenV; rw [if_neg (by omega), if_neg (by omega), if_neg (by omega)])
      go_wp2
      go_big_quiet ((go_at_call 127; exact still_quiet (l01Line_any _ _ _ _ _ _ (by omega) (by omega) (by omega) (by omega) (by omega) (by omega) h1 h2)))
      go_wp2
      go_ret
      exact ⟨by rw [HF.out]; rfl, below_drewN ((below_new _ _).alloc (by simp) _) _⟩

/-- The change of a day. -/
def chV (m g t : Int) : Int := rdiv (20 * (g - m)) (t + 20)
theorem rdiv_neg {a b : Int} (h : 0 < a) : rdiv (-a) b = -rdiv a b := by
  unfold rdiv
  rw [if_pos (by omega), if_neg (by omega), show b - 2 * -a = 2 * a + b by omega]
theorem ch_bd {m g t : Int} (h1 : 0 ≤ m) (h2 : m ≤ 1000) (h3 : 0 ≤ g) (h4 : g ≤ 280) (h5 : 10 ≤ t) (h6 : t ≤ 1000) : (-1000 ≤ chV m g t ∧ chV m g t ≤ 1000) ∧ (0 ≤ m + chV m g t ∧ m + chV m g t ≤ 1000) := by
  unfold chV
  have key : ∀ d : Int, 0 ≤ d → d ≤ 1000 → 0 ≤ rdiv (20 * d) (t + 20) ∧ rdiv (20 * d) (t + 20) ≤ d := by
    intro d d0 d1
    refine rdiv_le (by omega) (by omega) d0 ?_
    have e : 2 * (t + 20) * d = 2 * ((t + 20) * d) := by rw [Int.mul_assoc]
    have : 30 * d ≤ (t + 20) * d := Int.mul_le_mul_of_nonneg_right (by omega) d0
    omega
  by_cases h : 0 ≤ g - m
  · have := key (g - m) h (by omega)
    omega
  · have k := key (m - g) (by omega) (by omega)
    have e : 20 * (g - m) = -(20 * (m - g)) := by omega
    rw [e, rdiv_neg (by omega)]
    omega

set_option maxHeartbeats 400000 in
theorem change_any (m g t : Int) (w : World) (h1 : 0 ≤ m) (h2 : m ≤ 1000) (h3 : 0 ≤ g) (h4 : g ≤ 280) (h5 : 10 ≤ t) (h6 : t ≤ 1000) :
    Calls Try.prog 130 #[.int .i64 m, .int .i64 g, .int .i64 t] w fun e w' => e = .returned (.int .i64 (chV m g t)) ∧ w = w' := by
  go_enter Try.func130, Try.ntmps130
  go_wp2_with (go_at_call 74; refine (divRound_any _ _ _ (by omega) (by omega) (by omega) (by omega)).mono ?_; rintro e w' ⟨rfl, rfl⟩)
  go_ret
  exact ⟨rfl, rfl⟩
set_option maxHeartbeats 400000 in
theorem l04Change_any (m g t : Int) (w : World) (h1 : 0 ≤ m) (h2 : m ≤ 1000) (h3 : 0 ≤ g) (h4 : g ≤ 280) (h5 : 10 ≤ t) (h6 : t ≤ 1000) :
    Calls Try.prog 77 #[.int .i64 m, .int .i64 g, .int .i64 t] w fun e w' => e = .returned (.int .i64 (chV m g t)) ∧ w = w' := by
  go_enter Try.func77, Try.ntmps77
  go_wp2_with (go_at_call 71; refine (l01Div_any _ _ _ (by omega) (by omega) (by omega) (by omega)).mono ?_; rintro e w' ⟨rfl, rfl⟩)
  go_ret
  exact ⟨rfl, rfl⟩

/-- The moisture behind k days. -/
def moist (m g t : Int) : Nat → Int
  | 0 => m
  | k + 1 => moist m g t k + chV (moist m g t k) g t
theorem moist_succ (m g t : Int) (k : Nat) : moist m g t (k + 1) = moist m g t k + chV (moist m g t k) g t := rfl
theorem moist_bd {m g t : Int} (h1 : 0 ≤ m) (h2 : m ≤ 1000) (h3 : 0 ≤ g) (h4 : g ≤ 280) (h5 : 10 ≤ t) (h6 : t ≤ 1000) : ∀ k, 0 ≤ moist m g t k ∧ moist m g t k ≤ 1000
  | 0 => ⟨h1, h2⟩
  | k + 1 => (ch_bd (moist_bd h1 h2 h3 h4 h5 h6 k).1 (moist_bd h1 h2 h3 h4 h5 h6 k).2 h3 h4 h5 h6).2
theorem moist_stay {m g t : Int} {k : Nat} (h : chV (moist m g t k) g t = 0) : ∀ n, k ≤ n → moist m g t n = moist m g t k
  | 0, hn => by obtain rfl : k = 0 := by omega
                rfl
  | n + 1, hn => by
    by_cases e : k = n + 1
    · subst e; rfl
    · have ih := moist_stay h n (by omega)
      rw [moist_succ, ih, h]; omega
theorem moist_one (m g t : Int) : moist m g t 1 = m + chV m g t := rfl

set_option maxHeartbeats 2000000 in
theorem after_any (x0 : ByteArray) (x1 x2 x3 hu : Int) (d : Nat) (w : World) (h1 : 0 ≤ x1) (h2 : x1 ≤ 1000) (h5 : 10 ≤ x2) (h6 : x2 ≤ 1000) (h7 : 0 ≤ hu) (h8 : hu ≤ 1000) (h9 : d ≤ 4000) :
    Calls Try.prog 81 #[.agg #[.string x0, .int .i64 x1, .int .i64 x2, .int .i64 x3], .int .i64 hu, .int .i64 (d : Int)] w fun e w' => e = .returned (.int .i64 (moist x1 (evenV hu) x2 d)) ∧ Below w.heap.size w w' := by
  obtain ⟨e1, e2⟩ := even_bd hu
  go_enter Try.func81, Try.ntmps81
  go_wp2
  have y1 := Ext.cell (W := w.alloc (.cells #[.string x0, .int .i64 x1, .int .i64 x2, .int .i64 x3] 37)) (b := w.heap.size) (o := 1) (u := .int .i64 x1) (by simp) (by simp)
  refine wp_region_ext (by kernel_rfl) (by kernel_rfl) ?_
  repeat (go_big_quiet_step ((go_at_call 129; exact ext_call (even_any _ _ h7 h8))))
  refine wpQuiet_nil ?_
  intro W1 hx
  obtain ⟨x, hx⟩ := hx
  have hW1 := x.h
  rw [← hx] at hW1
  clear hx x
  clear y1
  have hc2 : W1.cell? ⟨w.heap.size, 2, none⟩ = some (.int .i64 x2) := (bcell hW1 _ _ (by simp)).trans (by simp)
  have hB := (below_new w _).trans (hW1.mono (by simp))
  have HB := Lib.hid hB
  clear hW1 hB
  go_wp2
  go_loop [8, 15] (fun v i => ∃ k : Nat, k ≤ d ∧ i = .int .i64 k ∧ v = .int .i64 (moist x1 (evenV hu) x2 k)) (fun _ i => d - (intOf i).toNat)
  case atStart => exact ⟨0, Nat.zero_le _, rfl, rfl⟩
  case round =>
    obtain ⟨k, hk, rfl, rfl⟩ := hrel
    obtain ⟨b1, b2⟩ := moist_bd h1 h2 e1 e2 h5 h6 k
    by_cases hlt : k < d
    · have hlti : (k : Int) < (d : Int) := by omega
      obtain ⟨⟨c1, c2⟩, ⟨c3, c4⟩⟩ := ch_bd b1 b2 e1 e2 h5 h6
      by_cases hz : chV (moist x1 (evenV hu) x2 k) (evenV hu) x2 = 0
      · have hzb : (chV (moist x1 (evenV hu) x2 k) (evenV hu) x2 == 0) = true := by simpa using hz
        have HF := Lib.hid (moist_stay hz d (by omega))
        clear hz
        go_wp2_with (go_at_call 130; refine (change_any _ _ _ _ b1 b2 e1 e2 h5 h6).mono ?_; rintro e w' ⟨rfl, rfl⟩)
        go_ret
        exact ⟨by rw [HF.out]; rfl, HB.out⟩
      · have hzb : (chV (moist x1 (evenV hu) x2 k) (evenV hu) x2 == 0) = false := by simpa using hz
        have HF := Lib.hid (moist_succ x1 (evenV hu) x2 k)
        clear hz
        go_wp2_with (go_at_call 130; refine (change_any _ _ _ _ b1 b2 e1 e2 h5 h6).mono ?_; rintro e w' ⟨rfl, rfl⟩)
        go_round
        case rel => exact ⟨k + 1, by omega, by go_num, by rw [HF.out]⟩
        case measure => simp [intOf]; omega
    · obtain rfl : k = d := by omega
      go_wp2
      go_ret
      exact ⟨rfl, HB.out⟩

set_option maxHeartbeats 2000000 in
theorem l04After_any (m g t : Int) (d : Nat) (w : World) (h1 : 0 ≤ m) (h2 : m ≤ 1000) (h3 : 0 ≤ g) (h4 : g ≤ 280) (h5 : 10 ≤ t) (h6 : t ≤ 1000) (h9 : d ≤ 4000) :
    Calls Try.prog 83 #[.int .i64 m, .int .i64 g, .int .i64 t, .int .i64 (d : Int)] w fun e w' => e = .returned (.int .i64 (moist m g t d)) ∧ w = w' := by
  go_enter Try.func83, Try.ntmps83
  go_wp2
  go_loop [0, 9] (fun v i => ∃ k : Nat, k ≤ d ∧ i = .int .i64 k ∧ v = .int .i64 (moist m g t k)) (fun _ i => d - (intOf i).toNat)
  case atStart => exact ⟨0, Nat.zero_le _, rfl, rfl⟩
  case round =>
    obtain ⟨k, hk, rfl, rfl⟩ := hrel
    obtain ⟨b1, b2⟩ := moist_bd h1 h2 h3 h4 h5 h6 k
    by_cases hlt : k < d
    · have hlti : (k : Int) < (d : Int) := by omega
      obtain ⟨⟨c1, c2⟩, ⟨c3, c4⟩⟩ := ch_bd b1 b2 h3 h4 h5 h6
      by_cases hz : chV (moist m g t k) g t = 0
      · have hzb : (chV (moist m g t k) g t == 0) = true := by simpa using hz
        have HF := Lib.hid (moist_stay hz d (by omega))
        clear hz
        go_wp2_with (go_at_call 77; refine (l04Change_any _ _ _ _ b1 b2 h3 h4 h5 h6).mono ?_; rintro e w' ⟨rfl, rfl⟩)
        go_ret
        exact ⟨by rw [HF.out]; rfl, rfl⟩
      · have hzb : (chV (moist m g t k) g t == 0) = false := by simpa using hz
        have HF := Lib.hid (moist_succ m g t k)
        clear hz
        go_wp2_with (go_at_call 77; refine (l04Change_any _ _ _ _ b1 b2 h3 h4 h5 h6).mono ?_; rintro e w' ⟨rfl, rfl⟩)
        go_round
        case rel => exact ⟨k + 1, by omega, by go_num, by rw [HF.out]⟩
        case measure => simp [intOf]; omega
    · obtain rfl : k = d := by omega
      go_wp2
      go_ret
      exact ⟨rfl, rfl⟩
theorem stack_bd {x0 : ByteArray} {x1 x2 x3 : Int} (h : vStack x0 x1 x2 x3 = true) : (0 ≤ x1 ∧ x1 ≤ 1000) ∧ (10 ≤ x2 ∧ x2 ≤ 1000) := by
  unfold vStack at h
  simp only [Bool.and_eq_true] at h
  exact ⟨inB_true h.2.1, inB_true h.2.2.1⟩
end Go.Proofs.Ytlpjjhjbejjddaa
