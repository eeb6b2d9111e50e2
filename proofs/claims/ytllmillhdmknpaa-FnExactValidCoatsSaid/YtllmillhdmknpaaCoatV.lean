/- The contracts of the validity of the type Coat and of its lists, in the program and in the reference: both are one and the same Bool. -/
import Derived.Test.YtllmillhdmknpaaCoatI
namespace Go.Proofs.Ytllmillhdmknpaa
open Go.RowKit
attribute [local go_sem ↓] Go.wp_at_zero Go.wp_at_succ
/-- A colour. -/
def colB (n : Nat) (z : Nat → Int) : Bool := allB n (fun i => inB (z i) 0 255) && decide (n = 3)

theorem colB_out {n : Nat} {z : Nat → Int} (k : Nat) (hk : k < n) (h : inB (z k) 0 255 = false) : colB n z = false := by
  unfold colB; rw [allB_false k hk h]; rfl

theorem colB_end {n : Nat} {z : Nat → Int} (h : allB n (fun i => inB (z i) 0 255) = true) : colB n z = ((n : Int) == 3) := by
  unfold colB; rw [h, Bool.eq_iff_iff]; simp; omega

set_option maxHeartbeats 1000000 in
theorem isColour_any (g n : Nat) (z : Nat → Int) (w : World) (t1 : TypeId) (hn : n ≤ 1048576) (h1 : w.rowIs g t1 n (rowInts z)) :
    Calls Try.prog 145 #[.slice (some ⟨g, 0, none⟩) n n] w fun e w' => e = .returned (.bool (colB n z)) ∧ w = w' := by
  have HR := Lib.hid (RdInts.of_row h1)
  clear h1
  go_enter Try.func145, Try.ntmps145
  go_wp2
  go_loop [7] (fun i => ∃ k : Nat, k ≤ n ∧ i = .int .i64 k ∧ allB k (fun i => inB (z i) 0 255) = true) (fun i => n - (intOf i).toNat)
  case atStart => exact ⟨0, Nat.zero_le _, rfl, rfl⟩
  case round =>
    obtain ⟨k, hk, rfl, ha⟩ := hrel
    have HA := Lib.hid ha
    clear ha
    by_cases hlt : k < n
    · have hlti : (k : Int) < (n : Int) := by omega
      have hki : (0 : Int) ≤ (k : Int) := by omega
      have c0 := HR.out k hlt
      simp only [Nat.zero_add] at c0
      by_cases hp : inB (z k) 0 255 = true
      · have HK := Lib.hid hp
        go_wp2_with (first | (go_at_call 77; refine (within_any _ _ _ _).mono ?_; rintro e w' ⟨rfl, rfl⟩))
        go_round
        case rel => exact ⟨k + 1, by omega, by go_num, by rw [allB_succ, HA.out, HK.out]; rfl⟩
        case measure => simp [intOf]; omega
      · have hp2 : inB (z k) 0 255 = false := by simpa using hp
        clear hp
        have HF := Lib.hid (colB_out k hlt hp2)
        go_wp2_with (first | (go_at_call 77; refine (within_any _ _ _ _).mono ?_; rintro e w' ⟨rfl, rfl⟩))
        go_ret
        exact ⟨by rw [HF.out]; rfl, rfl⟩
    · obtain rfl : k = n := by omega
      have HF := Lib.hid (colB_end HA.out)
      go_wp2
      go_ret
      exact ⟨by rw [HF.out]; rfl, rfl⟩

set_option maxHeartbeats 1000000 in
theorem l13Colour_any (g n : Nat) (z : Nat → Int) (w : World) (t1 : TypeId) (hn : n ≤ 1048576) (h1 : w.rowIs g t1 n (rowInts z)) :
    Calls Try.prog 168 #[.slice (some ⟨g, 0, none⟩) n n] w fun e w' => e = .returned (.bool (colB n z)) ∧ w = w' := by
  have HR := Lib.hid (RdInts.of_row h1)
  clear h1
  go_enter Try.func168, Try.ntmps168
  go_wp2
  go_loop [3] (fun i => ∃ k : Nat, k ≤ n ∧ i = .int .i64 k ∧ allB k (fun i => inB (z i) 0 255) = true) (fun i => n - (intOf i).toNat)
  case atStart => exact ⟨0, Nat.zero_le _, rfl, rfl⟩
  case round =>
    obtain ⟨k, hk, rfl, ha⟩ := hrel
    have HA := Lib.hid ha
    clear ha
    by_cases hlt : k < n
    · have hlti : (k : Int) < (n : Int) := by omega
      have hki : (0 : Int) ≤ (k : Int) := by omega
      have c0 := HR.out k hlt
      simp only [Nat.zero_add] at c0
      by_cases hp : inB (z k) 0 255 = true
      · have HK := Lib.hid hp
        go_wp2_with (first | (go_at_call 73; refine (l00In_any _ _ _ _).mono ?_; rintro e w' ⟨rfl, rfl⟩))
        go_round
        case rel => exact ⟨k + 1, by omega, by go_num, by rw [allB_succ, HA.out, HK.out]; rfl⟩
        case measure => simp [intOf]; omega
      · have hp2 : inB (z k) 0 255 = false := by simpa using hp
        clear hp
        have HF := Lib.hid (colB_out k hlt hp2)
        go_wp2_with (first | (go_at_call 73; refine (l00In_any _ _ _ _).mono ?_; rintro e w' ⟨rfl, rfl⟩))
        go_ret
        exact ⟨by rw [HF.out]; rfl, rfl⟩
    · obtain rfl : k = n := by omega
      have HF := Lib.hid (colB_end HA.out)
      go_wp2
      go_ret
      exact ⟨by rw [HF.out]; rfl, rfl⟩

/-- A coat that is valid. -/
def vCoat (x0 : ByteArray) (x1 x2 : Int) (nn : Nat) (z : Nat → Int) : Bool := nameB x0 && (inB x1 0 365 && (inB x2 0 1000 && colB nn z))

set_option maxHeartbeats 1000000 in
theorem validCoat_any (x0 : ByteArray) (x1 x2 : Int) (g nn : Nat) (z : Nat → Int) (w : World) (hs0 : x0.size ≤ maxLen) (hn : nn ≤ 1048576) (h1 : w.rowIs g 2 nn (rowInts z)) :
    Calls Try.prog 97 #[.agg #[.string x0, .int .i64 x1, .int .i64 x2, .slice (some ⟨g, 0, none⟩) nn nn]] w fun e w' => e = .returned (.bool (vCoat x0 x1 x2 nn z)) ∧ w.alloc (.cells #[.string x0, .int .i64 x1, .int .i64 x2, .slice (some ⟨g, 0, none⟩) nn nn] 121) = w' := by
  have H1 := Lib.hid (h1.alloc (.cells #[.string x0, .int .i64 x1, .int .i64 x2, .slice (some ⟨g, 0, none⟩) nn nn] 121))
  clear h1
  go_enter Try.func97, Try.ntmps97
  go_wp2_with (first | (go_at_call 138; refine (IsName_any _ _ hs0).mono ?_; rintro e w' ⟨rfl, rfl⟩) | (go_at_call 77; refine (within_any _ _ _ _).mono ?_; rintro e w' ⟨rfl, rfl⟩) | (go_at_call 145; refine (isColour_any g nn z _ _ hn H1.out).mono ?_; rintro e w' ⟨rfl, rfl⟩))
  all_goals (go_ret; exact ⟨by simp [vCoat, *], rfl⟩)

set_option maxHeartbeats 1000000 in
theorem oneCoat_any (b o : Nat) (x0 : ByteArray) (x1 x2 : Int) (g nn : Nat) (z : Nat → Int) (w : World) (hs0 : x0.size ≤ maxLen) (hn : nn ≤ 1048576) (hr : w.rowIs g 2 nn (rowInts z)) (h0 : w.cell? ⟨b, o, none⟩ = some (.string x0)) (h1 : w.cell? ⟨b, o + 1, none⟩ = some (.int .i64 x1)) (h2 : w.cell? ⟨b, o + 2, none⟩ = some (.int .i64 x2)) (h3 : w.cell? ⟨b, o + 3, none⟩ = some (.slice (some ⟨g, 0, none⟩) nn nn)) :
    Calls Try.prog 143 #[.pointer (some ⟨b, o, none⟩)] w fun e w' => e = .returned (.bool (vCoat x0 x1 x2 nn z)) ∧ w = w' := by
  have H1 := Lib.hid hr
  clear hr
  go_enter Try.func143, Try.ntmps143
  go_wp2_with (first | (go_at_call 136; refine (l01Name_any _ _ hs0).mono ?_; rintro e w' ⟨rfl, rfl⟩) | (go_at_call 73; refine (l00In_any _ _ _ _).mono ?_; rintro e w' ⟨rfl, rfl⟩) | (go_at_call 168; refine (l13Colour_any g nn z _ _ hn H1.out).mono ?_; rintro e w' ⟨rfl, rfl⟩))
  all_goals (go_ret; exact ⟨by simp [vCoat, *], rfl⟩)

/-- The coat at place i is valid and stands behind the one before it. -/
def okCoat (F0 : Nat → ByteArray) (F1 F2 : Nat → Int) (N : Nat → Nat) (Z : Nat → Nat → Int) (i : Nat) : Bool := vCoat (F0 i) (F1 i) (F2 i) (N i) (Z i) && (decide (i = 0) || Op.bytesLess (F0 (i - 1)).toList (F0 i).toList)

/-- A list of coats that is valid. -/
def listCoat (n : Nat) (F0 : Nat → ByteArray) (F1 F2 : Nat → Int) (N : Nat → Nat) (Z : Nat → Nat → Int) : Bool := allB n (okCoat F0 F1 F2 N Z) && decide ((n : Int) ≤ 10)

theorem listCoat_out {n : Nat} {F0 : Nat → ByteArray} {F1 F2 : Nat → Int} {N : Nat → Nat} {Z : Nat → Nat → Int} (k : Nat) (hk : k < n) (h : okCoat F0 F1 F2 N Z k = false) : listCoat n F0 F1 F2 N Z = false := by
  unfold listCoat; rw [allB_false k hk h]; rfl

theorem listCoat_end {n : Nat} {F0 : Nat → ByteArray} {F1 F2 : Nat → Int} {N : Nat → Nat} {Z : Nat → Nat → Int} (h : allB n (okCoat F0 F1 F2 N Z) = true) : listCoat n F0 F1 F2 N Z = decide ((n : Int) ≤ 10) := by
  unfold listCoat; rw [h]; rfl

set_option maxHeartbeats 2000000 in
theorem OkCoat_any (g n : Nat) (F0 : Nat → ByteArray) (F1 F2 : Nat → Int) (G N : Nat → Nat) (Z : Nat → Nat → Int) (w : World) (hn : n ≤ 1048576) (hN : ∀ i, i < n → N i ≤ 1048576) (h1 : DpCoat w g n F0 F1 F2 G N Z) (hS0 : ∀ i, i < n → (F0 i).size ≤ maxLen) :
    Calls Try.prog 95 #[.slice (some ⟨g, 0, none⟩) n n] w fun e w' => e = .returned (.bool (listCoat n F0 F1 F2 N Z)) ∧ Below w.heap.size w w' := by
  have hl1 := h1.1.lt
  have H1 := Lib.hid h1
  have HN := Lib.hid hN
  have HS0 := Lib.hid hS0
  clear h1 hN hS0
  go_enter Try.func95, Try.ntmps95
  go_wp2
  go_loopw [3] (fun i wr => ∃ (k : Nat), k ≤ n ∧ i = .int .i64 k ∧ Below w.heap.size w wr ∧ allB k (okCoat F0 F1 F2 N Z) = true) (fun i _ => n - (intOf i).toNat)
  case atStart => exact ⟨0, Nat.zero_le _, rfl, Below.refl _ _, rfl⟩
  case round =>
    obtain ⟨k, hk, rfl, hbel, ha⟩ := hrel
    have HA := Lib.hid ha
    clear ha
    by_cases hlt : k < n
    · have hlti : (k : Int) < (n : Int) := by omega
      have hki : (0 : Int) ≤ (k : Int) := by omega
      have D := H1.out.below hbel
      have HD := Lib.hid D
      obtain ⟨c0, c1, c2, c3⟩ := D.at k hlt
      have HQ := Lib.hid (D.2 k hlt)
      have hgl : g < wr.heap.size := D.1.lt
      clear D
      have hs0 := HS0.out k hlt
      have hnk := HN.out k hlt
      by_cases hv : vCoat (F0 k) (F1 k) (F2 k) (N k) (Z k) = true
      · by_cases hk0 : k = 0
        · have HK := Lib.hid (show okCoat F0 F1 F2 N Z k = true by unfold okCoat; rw [hv, hk0]; rfl)
          have hkd : decide (0 < k) = false := by simp; omega
          clear hk0
          go_wp2
          go_quiet ((go_at_call 143; exact still_quiet (oneCoat_any _ _ _ _ _ _ _ (Z k) _ hs0 hnk HQ.out c0 c1 c2 c3)))
          go_wp2
          go_roundw
          case rel => exact ⟨k + 1, by omega, by go_num, below_drewN hbel _, by rw [allB_succ, HA.out, HK.out]; rfl⟩
          case measure => simp [intOf]; omega
        · obtain ⟨j, rfl⟩ : ∃ j, k = j + 1 := ⟨k - 1, by omega⟩
          clear hk0
          obtain ⟨d0, _, _, _⟩ := HD.out.at j (by omega)
          by_cases hb : Op.bytesLess (F0 j).toList (F0 (j + 1)).toList = true
          · have HK := Lib.hid (show okCoat F0 F1 F2 N Z (j + 1) = true by unfold okCoat; rw [hv]; simpa using hb)
            go_wp2
            go_quiet ((go_at_call 143; exact still_quiet (oneCoat_any _ _ _ _ _ _ _ (Z (j + 1)) _ hs0 hnk HQ.out c0 c1 c2 c3)))
            go_wp2
            go_roundw
            case rel => exact ⟨j + 1 + 1, by omega, by go_num, below_drewN hbel _, by rw [allB_succ, HA.out, HK.out]; rfl⟩
            case measure => simp [intOf]; omega
          · have hb2 : Op.bytesLess (F0 j).toList (F0 (j + 1)).toList = false := by simpa using hb
            clear hb
            have HF := Lib.hid (listCoat_out (n := n) (F0 := F0) (F1 := F1) (F2 := F2) (N := N) (Z := Z) (j + 1) hlt (by unfold okCoat; rw [hv]; simpa using hb2))
            go_wp2
            go_quiet ((go_at_call 143; exact still_quiet (oneCoat_any _ _ _ _ _ _ _ (Z (j + 1)) _ hs0 hnk HQ.out c0 c1 c2 c3)))
            go_wp2
            go_ret
            exact ⟨by rw [HF.out]; rfl, below_drewN hbel _⟩
      · have hv2 : vCoat (F0 k) (F1 k) (F2 k) (N k) (Z k) = false := by simpa using hv
        clear hv
        have HF := Lib.hid (listCoat_out (n := n) (F0 := F0) (F1 := F1) (F2 := F2) (N := N) (Z := Z) k hlt (by unfold okCoat; rw [hv2]; rfl))
        go_wp2
        go_quiet ((go_at_call 143; exact still_quiet (oneCoat_any _ _ _ _ _ _ _ (Z k) _ hs0 hnk HQ.out c0 c1 c2 c3)))
        go_wp2
        go_ret
        exact ⟨by rw [HF.out]; rfl, below_drewN hbel _⟩
    · obtain rfl : k = n := by omega
      have HF := Lib.hid (listCoat_end HA.out)
      go_wp2
      go_ret
      exact ⟨by rw [HF.out]; rfl, hbel⟩

set_option maxHeartbeats 2000000 in
theorem ValidCoat_any (g n : Nat) (F0 : Nat → ByteArray) (F1 F2 : Nat → Int) (G N : Nat → Nat) (Z : Nat → Nat → Int) (w : World) (hn : n ≤ 1048576) (hN : ∀ i, i < n → N i ≤ 1048576) (h1 : DpCoat w g n F0 F1 F2 G N Z) (hS0 : ∀ i, i < n → (F0 i).size ≤ maxLen) :
    Calls Try.prog 37 #[.slice (some ⟨g, 0, none⟩) n n] w fun e w' => e = .returned (.bool (listCoat n F0 F1 F2 N Z)) ∧ Below w.heap.size w w' := by
  have hl1 := h1.1.lt
  have H1 := Lib.hid h1
  have HN := Lib.hid hN
  have HS0 := Lib.hid hS0
  clear h1 hN hS0
  go_enter Try.func37, Try.ntmps37
  go_wp2
  go_loopw [7] (fun i wr => ∃ (k : Nat), k ≤ n ∧ i = .int .i64 k ∧ Below w.heap.size w wr ∧ allB k (okCoat F0 F1 F2 N Z) = true) (fun i _ => n - (intOf i).toNat)
  case atStart => exact ⟨0, Nat.zero_le _, rfl, Below.refl _ _, rfl⟩
  case round =>
    obtain ⟨k, hk, rfl, hbel, ha⟩ := hrel
    have HA := Lib.hid ha
    clear ha
    by_cases hlt : k < n
    · have hlti : (k : Int) < (n : Int) := by omega
      have hki : (0 : Int) ≤ (k : Int) := by omega
      have D := H1.out.below hbel
      have HD := Lib.hid D
      obtain ⟨c0, c1, c2, c3⟩ := D.at k hlt
      have HQ := Lib.hid (D.2 k hlt)
      have hgl : g < wr.heap.size := D.1.lt
      clear D
      have hs0 := HS0.out k hlt
      have hnk := HN.out k hlt
      by_cases hv : vCoat (F0 k) (F1 k) (F2 k) (N k) (Z k) = true
      · by_cases hk0 : k = 0
        · have HK := Lib.hid (show okCoat F0 F1 F2 N Z k = true by unfold okCoat; rw [hv, hk0]; rfl)
          have hkd : decide (0 < k) = false := by simp; omega
          clear hk0
          go_wp2
          have e0 := Ext.cell (W := wr.alloc (.cells #[.string (F0 k), .int .i64 (F1 k), .int .i64 (F2 k), .slice (some ⟨G k, 0, none⟩) (N k) (N k)] 121)) (b := wr.heap.size) (o := 0) (u := .string (F0 k)) (by simp) (by simp)
          have e1 := Ext.cell (W := wr.alloc (.cells #[.string (F0 k), .int .i64 (F1 k), .int .i64 (F2 k), .slice (some ⟨G k, 0, none⟩) (N k) (N k)] 121)) (b := wr.heap.size) (o := 1) (u := .int .i64 (F1 k)) (by simp) (by simp)
          have e2 := Ext.cell (W := wr.alloc (.cells #[.string (F0 k), .int .i64 (F1 k), .int .i64 (F2 k), .slice (some ⟨G k, 0, none⟩) (N k) (N k)] 121)) (b := wr.heap.size) (o := 2) (u := .int .i64 (F2 k)) (by simp) (by simp)
          have e3 := Ext.cell (W := wr.alloc (.cells #[.string (F0 k), .int .i64 (F1 k), .int .i64 (F2 k), .slice (some ⟨G k, 0, none⟩) (N k) (N k)] 121)) (b := wr.heap.size) (o := 3) (u := .slice (some ⟨G k, 0, none⟩) (N k) (N k)) (by simp) (by simp)
          have HQa := Lib.hid (HQ.out.alloc (.cells #[.string (F0 k), .int .i64 (F1 k), .int .i64 (F2 k), .slice (some ⟨G k, 0, none⟩) (N k) (N k)] 121))
          refine wp_region_ext (by kernel_rfl) (by kernel_rfl) ?_
          repeat (go_big_quiet_step ((go_at_call 97; exact ext_one (validCoat_any _ _ _ _ _ (Z k) _ hs0 hnk (row_below HQa.out (Ext.h _) HQa.out.lt)))))
          refine wpQuiet_nil ?_
          rintro _ ⟨⟨W1, hW1⟩, rfl⟩
          have hbel2 := below_ext hbel hW1
          clear hW1 HQa e0 e1 e2 e3
          go_wp2
          go_roundw
          case rel => exact ⟨k + 1, by omega, by go_num, hbel2, by rw [allB_succ, HA.out, HK.out]; rfl⟩
          case measure => simp [intOf]; omega
        · obtain ⟨j, rfl⟩ : ∃ j, k = j + 1 := ⟨k - 1, by omega⟩
          clear hk0
          obtain ⟨d0, _, _, _⟩ := HD.out.at j (by omega)
          by_cases hb : Op.bytesLess (F0 j).toList (F0 (j + 1)).toList = true
          · have HK := Lib.hid (show okCoat F0 F1 F2 N Z (j + 1) = true by unfold okCoat; rw [hv]; simpa using hb)
            go_wp2
            have e0 := Ext.cell (W := wr.alloc (.cells #[.string (F0 (j + 1)), .int .i64 (F1 (j + 1)), .int .i64 (F2 (j + 1)), .slice (some ⟨G (j + 1), 0, none⟩) (N (j + 1)) (N (j + 1))] 121)) (b := wr.heap.size) (o := 0) (u := .string (F0 (j + 1))) (by simp) (by simp)
            have e1 := Ext.cell (W := wr.alloc (.cells #[.string (F0 (j + 1)), .int .i64 (F1 (j + 1)), .int .i64 (F2 (j + 1)), .slice (some ⟨G (j + 1), 0, none⟩) (N (j + 1)) (N (j + 1))] 121)) (b := wr.heap.size) (o := 1) (u := .int .i64 (F1 (j + 1))) (by simp) (by simp)
            have e2 := Ext.cell (W := wr.alloc (.cells #[.string (F0 (j + 1)), .int .i64 (F1 (j + 1)), .int .i64 (F2 (j + 1)), .slice (some ⟨G (j + 1), 0, none⟩) (N (j + 1)) (N (j + 1))] 121)) (b := wr.heap.size) (o := 2) (u := .int .i64 (F2 (j + 1))) (by simp) (by simp)
            have e3 := Ext.cell (W := wr.alloc (.cells #[.string (F0 (j + 1)), .int .i64 (F1 (j + 1)), .int .i64 (F2 (j + 1)), .slice (some ⟨G (j + 1), 0, none⟩) (N (j + 1)) (N (j + 1))] 121)) (b := wr.heap.size) (o := 3) (u := .slice (some ⟨G (j + 1), 0, none⟩) (N (j + 1)) (N (j + 1))) (by simp) (by simp)
            have e4 := Ext.cell (W := wr.alloc (.cells #[.string (F0 (j + 1)), .int .i64 (F1 (j + 1)), .int .i64 (F2 (j + 1)), .slice (some ⟨G (j + 1), 0, none⟩) (N (j + 1)) (N (j + 1))] 121)) (b := g) (o := j * 4) (u := .string (F0 j)) (by rw [World.cell?_alloc_lt _ _ _ hgl]; exact d0) (by simp; omega)
            have HQa := Lib.hid (HQ.out.alloc (.cells #[.string (F0 (j + 1)), .int .i64 (F1 (j + 1)), .int .i64 (F2 (j + 1)), .slice (some ⟨G (j + 1), 0, none⟩) (N (j + 1)) (N (j + 1))] 121))
            refine wp_region_ext (by kernel_rfl) (by kernel_rfl) ?_
            repeat (go_big_quiet_step ((go_at_call 97; exact ext_one (validCoat_any _ _ _ _ _ (Z (j + 1)) _ hs0 hnk (row_below HQa.out (Ext.h _) HQa.out.lt)))))
            refine wpQuiet_nil ?_
            rintro _ ⟨⟨W1, hW1⟩, rfl⟩
            have hbel2 := below_ext hbel hW1
            clear hW1 HQa e0 e1 e2 e3 e4
            go_wp2
            go_roundw
            case rel => exact ⟨j + 1 + 1, by omega, by go_num, hbel2, by rw [allB_succ, HA.out, HK.out]; rfl⟩
            case measure => simp [intOf]; omega
          · have hb2 : Op.bytesLess (F0 j).toList (F0 (j + 1)).toList = false := by simpa using hb
            clear hb
            have HF := Lib.hid (listCoat_out (n := n) (F0 := F0) (F1 := F1) (F2 := F2) (N := N) (Z := Z) (j + 1) hlt (by unfold okCoat; rw [hv]; simpa using hb2))
            go_wp2
            have e0 := Ext.cell (W := wr.alloc (.cells #[.string (F0 (j + 1)), .int .i64 (F1 (j + 1)), .int .i64 (F2 (j + 1)), .slice (some ⟨G (j + 1), 0, none⟩) (N (j + 1)) (N (j + 1))] 121)) (b := wr.heap.size) (o := 0) (u := .string (F0 (j + 1))) (by simp) (by simp)
            have e1 := Ext.cell (W := wr.alloc (.cells #[.string (F0 (j + 1)), .int .i64 (F1 (j + 1)), .int .i64 (F2 (j + 1)), .slice (some ⟨G (j + 1), 0, none⟩) (N (j + 1)) (N (j + 1))] 121)) (b := wr.heap.size) (o := 1) (u := .int .i64 (F1 (j + 1))) (by simp) (by simp)
            have e2 := Ext.cell (W := wr.alloc (.cells #[.string (F0 (j + 1)), .int .i64 (F1 (j + 1)), .int .i64 (F2 (j + 1)), .slice (some ⟨G (j + 1), 0, none⟩) (N (j + 1)) (N (j + 1))] 121)) (b := wr.heap.size) (o := 2) (u := .int .i64 (F2 (j + 1))) (by simp) (by simp)
            have e3 := Ext.cell (W := wr.alloc (.cells #[.string (F0 (j + 1)), .int .i64 (F1 (j + 1)), .int .i64 (F2 (j + 1)), .slice (some ⟨G (j + 1), 0, none⟩) (N (j + 1)) (N (j + 1))] 121)) (b := wr.heap.size) (o := 3) (u := .slice (some ⟨G (j + 1), 0, none⟩) (N (j + 1)) (N (j + 1))) (by simp) (by simp)
            have e4 := Ext.cell (W := wr.alloc (.cells #[.string (F0 (j + 1)), .int .i64 (F1 (j + 1)), .int .i64 (F2 (j + 1)), .slice (some ⟨G (j + 1), 0, none⟩) (N (j + 1)) (N (j + 1))] 121)) (b := g) (o := j * 4) (u := .string (F0 j)) (by rw [World.cell?_alloc_lt _ _ _ hgl]; exact d0) (by simp; omega)
            have HQa := Lib.hid (HQ.out.alloc (.cells #[.string (F0 (j + 1)), .int .i64 (F1 (j + 1)), .int .i64 (F2 (j + 1)), .slice (some ⟨G (j + 1), 0, none⟩) (N (j + 1)) (N (j + 1))] 121))
            refine wp_region_ext (by kernel_rfl) (by kernel_rfl) ?_
            repeat (go_big_quiet_step ((go_at_call 97; exact ext_one (validCoat_any _ _ _ _ _ (Z (j + 1)) _ hs0 hnk (row_below HQa.out (Ext.h _) HQa.out.lt)))))
            refine wpQuiet_nil ?_
            rintro _ ⟨⟨W1, hW1⟩, rfl⟩
            have hbel2 := below_ext hbel hW1
            clear hW1 HQa e0 e1 e2 e3 e4
            go_wp2
            go_ret
            exact ⟨by rw [HF.out]; rfl, hbel2⟩
      · have hv2 : vCoat (F0 k) (F1 k) (F2 k) (N k) (Z k) = false := by simpa using hv
        clear hv
        have HF := Lib.hid (listCoat_out (n := n) (F0 := F0) (F1 := F1) (F2 := F2) (N := N) (Z := Z) k hlt (by unfold okCoat; rw [hv2]; rfl))
        go_wp2
        have e0 := Ext.cell (W := wr.alloc (.cells #[.string (F0 k), .int .i64 (F1 k), .int .i64 (F2 k), .slice (some ⟨G k, 0, none⟩) (N k) (N k)] 121)) (b := wr.heap.size) (o := 0) (u := .string (F0 k)) (by simp) (by simp)
        have e1 := Ext.cell (W := wr.alloc (.cells #[.string (F0 k), .int .i64 (F1 k), .int .i64 (F2 k), .slice (some ⟨G k, 0, none⟩) (N k) (N k)] 121)) (b := wr.heap.size) (o := 1) (u := .int .i64 (F1 k)) (by simp) (by simp)
        have e2 := Ext.cell (W := wr.alloc (.cells #[.string (F0 k), .int .i64 (F1 k), .int .i64 (F2 k), .slice (some ⟨G k, 0, none⟩) (N k) (N k)] 121)) (b := wr.heap.size) (o := 2) (u := .int .i64 (F2 k)) (by simp) (by simp)
        have e3 := Ext.cell (W := wr.alloc (.cells #[.string (F0 k), .int .i64 (F1 k), .int .i64 (F2 k), .slice (some ⟨G k, 0, none⟩) (N k) (N k)] 121)) (b := wr.heap.size) (o := 3) (u := .slice (some ⟨G k, 0, none⟩) (N k) (N k)) (by simp) (by simp)
        have HQa := Lib.hid (HQ.out.alloc (.cells #[.string (F0 k), .int .i64 (F1 k), .int .i64 (F2 k), .slice (some ⟨G k, 0, none⟩) (N k) (N k)] 121))
        refine wp_region_ext (by kernel_rfl) (by kernel_rfl) ?_
        repeat (go_big_quiet_step ((go_at_call 97; exact ext_one (validCoat_any _ _ _ _ _ (Z k) _ hs0 hnk (row_below HQa.out (Ext.h _) HQa.out.lt)))))
        refine wpQuiet_nil ?_
        rintro _ ⟨⟨W1, hW1⟩, rfl⟩
        have hbel2 := below_ext hbel hW1
        clear hW1 HQa e0 e1 e2 e3
        go_wp2
        go_ret
        exact ⟨by rw [HF.out]; rfl, hbel2⟩
    · obtain rfl : k = n := by omega
      have HF := Lib.hid (listCoat_end HA.out)
      go_wp2_with (first | (go_at_call 98; refine (few_any _ _ _).mono ?_; rintro e w' ⟨rfl, rfl⟩))
      go_ret
      exact ⟨by rw [HF.out]; rfl, hbel⟩

set_option maxHeartbeats 400000 in
theorem SpecValidCoat_any (g n : Nat) (F0 : Nat → ByteArray) (F1 F2 : Nat → Int) (G N : Nat → Nat) (Z : Nat → Nat → Int) (w : World) (hn : n ≤ 1048576) (hN : ∀ i, i < n → N i ≤ 1048576) (h1 : DpCoat w g n F0 F1 F2 G N Z) (hS0 : ∀ i, i < n → (F0 i).size ≤ maxLen) :
    Calls Try.prog 35 #[.slice (some ⟨g, 0, none⟩) n n] w fun e w' => e = .returned (.bool (listCoat n F0 F1 F2 N Z)) ∧ Below w.heap.size w w' := by
  have H1 := Lib.hid h1
  have HN := Lib.hid hN
  have HM := Lib.hid hn
  have HS0 := Lib.hid hS0
  clear h1 hN hS0 hn
  go_enter Try.func35, Try.ntmps35
  go_wp2_with (go_at_call 95; refine (OkCoat_any g n F0 F1 F2 G N Z _ HM.out HN.out H1.out HS0.out).mono ?_; rintro e w' ⟨rfl, hbel⟩)
  go_ret
  exact ⟨rfl, hbel⟩
end Go.Proofs.Ytllmillhdmknpaa
