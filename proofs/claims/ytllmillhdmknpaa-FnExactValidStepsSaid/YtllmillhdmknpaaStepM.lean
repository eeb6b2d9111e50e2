/- The contracts of the validity of the type Step and of its lists, in the program and in the reference: both are one and the same Bool. -/
import Derived.Test.YtllmillhdmknpaaStepV
import Derived.Maps.Own
import Derived.Maps.Views
import Derived.StringKeys
namespace Go.Proofs.Ytllmillhdmknpaa
open Go.RowKit Go.Maps Go.WideMaps Go.WideElems Go.ChangeMaps
attribute [local go_sem ↓] Go.wp_at_zero Go.wp_at_succ
theorem keyLaw : Keyed Try.prog 9 := string_keyed Try.underlying9

theorem elem_bool_inv {P : Program} {e : TypeId} (he : P.underlying e = some .bool) {v : Value} {z : DataW Unit × List MemPlace} (h : plainElem P e v = some z) : ∃ a, v = .bool a ∧ z = (.lit (.bool a), []) := by
  unfold plainElem at h
  rw [he] at h
  cases v <;> simp at h
  exact ⟨_, rfl, h.symm⟩

/-- The map reads as the set of the first k names. -/
def SeenD (F0 : Nat → ByteArray) (k : Nat) (D : DataW Unit) : Prop := IsMap D ∧ ∀ s : ByteArray, s.size ≤ maxLen → D.atKey (.string s.data.toList) (.lit (.bool false)) = .lit (.bool (seenB F0 k s))

theorem seenD_zero (F0 : Nat → ByteArray) : SeenD F0 0 (.map []) := ⟨isMap_empty, fun _ _ => rfl⟩

theorem seenD_put {F0 : Nat → ByteArray} {k : Nat} {D : DataW Unit} (h : SeenD F0 k D) : SeenD F0 (k + 1) (D.put (.string (F0 k).data.toList) (.lit (.bool true))) := by
  refine ⟨h.1.put _ _, fun s hs => ?_⟩
  show _ = DataW.lit (Lit.bool ((F0 k).toList == s.toList || seenB F0 k s))
  by_cases e : (F0 k).data.toList = s.data.toList
  · have e2 : ((F0 k).toList == s.toList) = true := by rw [ByteArray.toList_eq, ByteArray.toList_eq, e]; simp
    rw [e2, ← e, atKey_put_same (k := .string (F0 k).data.toList) h.1 (show True from trivial)]
    rfl
  · have e2 : ((F0 k).toList == s.toList) = false := by rw [ByteArray.toList_eq, ByteArray.toList_eq, beq_eq_false_iff_ne]; exact e
    rw [e2, atKey_put_other (by intro h2; simp at h2; exact e (by rw [h2])), h.2 s hs]
    rfl

theorem look_run {F0 : Nat → ByteArray} {k n B : Nat} {D : DataW Unit} {W : World} (hown : W.ownsMap Try.prog 9 (plainElem Try.prog 4) B n D) (h : SeenD F0 k D) (s : ByteArray) (hs : s.size ≤ maxLen) : (Instr.lookup 130 (.map (some B)) (.string s) false).run Try.prog W = .ok (.bool (seenB F0 k s)) W := by
  have hz : (zeroValue 4).run Try.prog W = .ok (.bool false) W := by kernel_rfl
  obtain ⟨v, ps, hrun, hv⟩ := hown.lookup keyLaw Try.underlying130 hz (plainElem_bool Try.underlying4 false) (keyOf_string_mk Try.underlying9 hs)
  rw [h.2 s hs] at hv
  obtain ⟨a, rfl, ha⟩ := elem_bool_inv Try.underlying4 hv
  simp at ha
  rw [hrun, ha.1]

set_option maxHeartbeats 4000000 in
theorem ValidStep_any (g n : Nat) (F0 : Nat → ByteArray) (F1 F2 : Nat → Int) (G N : Nat → Nat) (Z : Nat → Nat → Int) (w : World) (hn : n ≤ 1048576) (hN : ∀ i, i < n → N i ≤ 1048576) (h1 : DpStep w g n F0 F1 F2 G N Z) (hS0 : ∀ i, i < n → (F0 i).size ≤ maxLen) :
    Calls Try.prog 42 #[.slice (some ⟨g, 0, none⟩) n n] w fun e w' => e = .returned (.bool (listStep n F0 F1 F2 N Z)) ∧ Below w.heap.size w w' := by
  have hl1 := h1.1.lt
  have H1 := Lib.hid h1
  have HN := Lib.hid hN
  have HS0 := Lib.hid hS0
  clear h1 hN hS0
  have hmm := @run_makeMap Try.prog
  go_enter Try.func42, Try.ntmps42
  go_wp2
  clear hmm
  go_loopw [9] (fun i wr => ∃ (k : Nat) (D : DataW Unit), k ≤ n ∧ i = .int .i64 k ∧ Below w.heap.size w wr ∧ wr.ownsMap Try.prog 9 (plainElem Try.prog 4) w.heap.size k D ∧ SeenD F0 k D ∧ allB k (okStep F0 F1 F2 N Z) = true) (fun i _ => n - (intOf i).toNat)
  case atStart => exact ⟨0, _, Nat.zero_le _, rfl, below_new _ _, World.ownsMap_made _ _ _ _, seenD_zero F0, rfl⟩
  case round =>
    obtain ⟨k, D, hk, rfl, hbel, hown, hsd, ha⟩ := hrel
    have HA := Lib.hid ha
    have HO := Lib.hid hown
    have HSD := Lib.hid hsd
    clear ha hown hsd
    by_cases hlt : k < n
    case neg =>
      obtain rfl : k = n := by omega
      have HF := Lib.hid (listStep_end HA.out)
      go_wp2_with (first | (go_at_call 98; refine (few_any _ _ _).mono ?_; rintro e w' ⟨rfl, rfl⟩))
      go_ret
      exact ⟨by rw [HF.out]; rfl, hbel⟩
    have hlti : (k : Int) < (n : Int) := by omega
    have hki : (0 : Int) ≤ (k : Int) := by omega
    have Dp := H1.out.below hbel
    obtain ⟨c0, c1, c2, c3⟩ := Dp.at k hlt
    have HQ := Lib.hid (Dp.2 k hlt)
    have hgl : g < wr.heap.size := Dp.1.lt
    clear Dp
    have hs0 := HS0.out k hlt
    have hnk := HN.out k hlt
    by_cases hv : vStep (F0 k) (F1 k) (F2 k) (N k) (Z k) = true
    case neg =>
      have hv2 : vStep (F0 k) (F1 k) (F2 k) (N k) (Z k) = false := by simpa using hv
      clear hv
      have HF := Lib.hid (listStep_out (n := n) (F0 := F0) (F1 := F1) (F2 := F2) (N := N) (Z := Z) k hlt (by unfold okStep; rw [hv2]; rfl))
      go_wp2_with fail
      refine (validStep_any _ _ _ _ _ (Z k) _ hs0 hnk (HQ.out.alloc _)).mono ?_
      rintro e w2 ⟨rfl, hw2⟩
      have hB : Below wr.heap.size wr w2 := by subst hw2; exact (below_new _ _).alloc (by simp) _
      have HO2 := Lib.hid (show w2.ownsMap Try.prog 9 (plainElem Try.prog 4) w.heap.size k D by subst hw2; exact (HO.out.alloc _).alloc _)
      have e0 : w2.cell? ⟨wr.heap.size, 0, none⟩ = some (.string (F0 k)) := by subst hw2; simp
      have e1 : w2.cell? ⟨wr.heap.size, 1, none⟩ = some (.int .i64 (F1 k)) := by subst hw2; simp
      have e2 : w2.cell? ⟨wr.heap.size, 2, none⟩ = some (.int .i64 (F2 k)) := by subst hw2; simp
      have e3 : w2.cell? ⟨wr.heap.size, 3, none⟩ = some (.slice (some ⟨G k, 0, none⟩) (N k) (N k)) := by subst hw2; simp
      clear hw2
      have hbel2 := hbel.trans (hB.mono hbel.size)
      have hlk := look_run HO2.out HSD.out (F0 k) hs0
      have HQ2 := Lib.hid (row_below HQ.out hB HQ.out.lt)
      clear c0 c1 c2 c3 hB HO HQ
      go_wp2
      go_ret
      exact ⟨by rw [HF.out]; rfl, hbel2⟩
    cases hse : seenB F0 k (F0 k) with
    | true =>
      have HF := Lib.hid (listStep_out (n := n) (F0 := F0) (F1 := F1) (F2 := F2) (N := N) (Z := Z) k hlt (by unfold okStep; rw [hse]; simp))
      go_wp2_with fail
      refine (validStep_any _ _ _ _ _ (Z k) _ hs0 hnk (HQ.out.alloc _)).mono ?_
      rintro e w2 ⟨rfl, hw2⟩
      have hB : Below wr.heap.size wr w2 := by subst hw2; exact (below_new _ _).alloc (by simp) _
      have HO2 := Lib.hid (show w2.ownsMap Try.prog 9 (plainElem Try.prog 4) w.heap.size k D by subst hw2; exact (HO.out.alloc _).alloc _)
      have e0 : w2.cell? ⟨wr.heap.size, 0, none⟩ = some (.string (F0 k)) := by subst hw2; simp
      have e1 : w2.cell? ⟨wr.heap.size, 1, none⟩ = some (.int .i64 (F1 k)) := by subst hw2; simp
      have e2 : w2.cell? ⟨wr.heap.size, 2, none⟩ = some (.int .i64 (F2 k)) := by subst hw2; simp
      have e3 : w2.cell? ⟨wr.heap.size, 3, none⟩ = some (.slice (some ⟨G k, 0, none⟩) (N k) (N k)) := by subst hw2; simp
      clear hw2
      have hbel2 := hbel.trans (hB.mono hbel.size)
      have hlk := look_run HO2.out HSD.out (F0 k) hs0
      have HQ2 := Lib.hid (row_below HQ.out hB HQ.out.lt)
      clear c0 c1 c2 c3 hB HO HQ
      go_wp2
      go_ret
      exact ⟨by rw [HF.out]; rfl, hbel2⟩
    | false =>
      have HRL := Lib.hid (rise_low (i := (k : Int)) (vStep_rise hv))
      by_cases h0 : N k = 0
      · have HK := Lib.hid (show okStep F0 F1 F2 N Z k = true by unfold okStep; rw [hv, hse, HRL.out, h0]; rfl)
        have H0 := Lib.hid h0
        clear h0
        go_wp2_with fail
        refine (validStep_any _ _ _ _ _ (Z k) _ hs0 hnk (HQ.out.alloc _)).mono ?_
        rintro e w2 ⟨rfl, hw2⟩
        have hB : Below wr.heap.size wr w2 := by subst hw2; exact (below_new _ _).alloc (by simp) _
        have HO2 := Lib.hid (show w2.ownsMap Try.prog 9 (plainElem Try.prog 4) w.heap.size k D by subst hw2; exact (HO.out.alloc _).alloc _)
        have e0 : w2.cell? ⟨wr.heap.size, 0, none⟩ = some (.string (F0 k)) := by subst hw2; simp
        have e1 : w2.cell? ⟨wr.heap.size, 1, none⟩ = some (.int .i64 (F1 k)) := by subst hw2; simp
        have e2 : w2.cell? ⟨wr.heap.size, 2, none⟩ = some (.int .i64 (F2 k)) := by subst hw2; simp
        have e3 : w2.cell? ⟨wr.heap.size, 3, none⟩ = some (.slice (some ⟨G k, 0, none⟩) (N k) (N k)) := by subst hw2; simp
        clear hw2
        have hbel2 := hbel.trans (hB.mono hbel.size)
        have hlk := look_run HO2.out HSD.out (F0 k) hs0
        have HQ2 := Lib.hid (row_below HQ.out hB HQ.out.lt)
        clear c0 c1 c2 c3 hB HO HQ
        rw [H0.out] at e3
        go_wp2_with (at_mapUpdate; refine wpList_mapUpdate_own _ rfl _ _ _ 130 rfl 9 4 keyLaw Try.underlying130 _ w.heap.size k _ rfl HO2.out (by unfold maxLen; omega) _ _ _ rfl rfl (keyOf_string_mk Try.underlying9 hs0) _ [] (plainElem_bool Try.underlying4 true) ?_)
        intro w3 hown3 hgrow3
        have HB3 := Lib.hid (hbel2.grown hgrow3 hbel2.size (fun j hj => by cases hj; exact Nat.le_refl _))
        have HO3 := Lib.hid hown3
        have HS3 := Lib.hid (seenD_put HSD.out)
        clear hown3 hgrow3 HO2 hlk
        go_wp2
        go_roundw
        case rel => first | exact ⟨k + 1, _, by omega, by go_num, HB3.out, HO3.out, HS3.out, by rw [allB_succ, HA.out, HK.out]; rfl⟩ | ((repeat apply Exists.intro); exact ⟨⟨k + 1, _, by omega, by go_num, HB3.out, HO3.out, HS3.out, by rw [allB_succ, HA.out, HK.out]; rfl⟩, rfl⟩)
        case measure => simp [intOf]; omega
      · obtain ⟨r, hr⟩ : ∃ r, N k = r + 1 := ⟨N k - 1, by omega⟩
        have hr1 : ((r + 1 : Nat) : Int) - 1 = (r : Int) := by omega
        have hr2 : (0 : Int) ≤ (r : Int) := by omega
        have hr3 : (r : Int) < ((r + 1 : Nat) : Int) := by omega
        have hrb : (r : Int) ≤ 1048576 := by omega
        have HR := Lib.hid hr
        by_cases hz : Z k r < (k : Int)
        · have HK := Lib.hid (show okStep F0 F1 F2 N Z k = true by unfold okStep; rw [hv, hse, HRL.out, hr]; simp [hz])
          have hzd : decide ((k : Int) ≤ Z k r) = false := by simp; omega
          clear h0 hr
          go_wp2_with fail
          refine (validStep_any _ _ _ _ _ (Z k) _ hs0 hnk (HQ.out.alloc _)).mono ?_
          rintro e w2 ⟨rfl, hw2⟩
          have hB : Below wr.heap.size wr w2 := by subst hw2; exact (below_new _ _).alloc (by simp) _
          have HO2 := Lib.hid (show w2.ownsMap Try.prog 9 (plainElem Try.prog 4) w.heap.size k D by subst hw2; exact (HO.out.alloc _).alloc _)
          have e0 : w2.cell? ⟨wr.heap.size, 0, none⟩ = some (.string (F0 k)) := by subst hw2; simp
          have e1 : w2.cell? ⟨wr.heap.size, 1, none⟩ = some (.int .i64 (F1 k)) := by subst hw2; simp
          have e2 : w2.cell? ⟨wr.heap.size, 2, none⟩ = some (.int .i64 (F2 k)) := by subst hw2; simp
          have e3 : w2.cell? ⟨wr.heap.size, 3, none⟩ = some (.slice (some ⟨G k, 0, none⟩) (N k) (N k)) := by subst hw2; simp
          clear hw2
          have hbel2 := hbel.trans (hB.mono hbel.size)
          have hlk := look_run HO2.out HSD.out (F0 k) hs0
          have HQ2 := Lib.hid (row_below HQ.out hB HQ.out.lt)
          clear c0 c1 c2 c3 hB HO HQ
          rw [HR.out] at e3
          have q0 : w2.cell? ⟨G k, r, none⟩ = some (.int .i64 (Z k r)) := by have := HQ2.out.cell (i := r) (by rw [HR.out]; omega); simpa [rowInts] using this
          go_wp2_with (at_mapUpdate; refine wpList_mapUpdate_own _ rfl _ _ _ 130 rfl 9 4 keyLaw Try.underlying130 _ w.heap.size k _ rfl HO2.out (by unfold maxLen; omega) _ _ _ rfl rfl (keyOf_string_mk Try.underlying9 hs0) _ [] (plainElem_bool Try.underlying4 true) ?_)
          intro w3 hown3 hgrow3
          have HB3 := Lib.hid (hbel2.grown hgrow3 hbel2.size (fun j hj => by cases hj; exact Nat.le_refl _))
          have HO3 := Lib.hid hown3
          have HS3 := Lib.hid (seenD_put HSD.out)
          clear hown3 hgrow3 HO2 hlk
          go_wp2
          go_roundw
          case rel => first | exact ⟨k + 1, _, by omega, by go_num, HB3.out, HO3.out, HS3.out, by rw [allB_succ, HA.out, HK.out]; rfl⟩ | ((repeat apply Exists.intro); exact ⟨⟨k + 1, _, by omega, by go_num, HB3.out, HO3.out, HS3.out, by rw [allB_succ, HA.out, HK.out]; rfl⟩, rfl⟩)
          case measure => simp [intOf]; omega
        · have HF := Lib.hid (listStep_out (n := n) (F0 := F0) (F1 := F1) (F2 := F2) (N := N) (Z := Z) k hlt (by unfold okStep; rw [hv, hse, HRL.out, hr]; simp [hz]))
          have hzd : (k : Int) ≤ Z k r := by omega
          clear h0 hr hz
          go_wp2_with fail
          refine (validStep_any _ _ _ _ _ (Z k) _ hs0 hnk (HQ.out.alloc _)).mono ?_
          rintro e w2 ⟨rfl, hw2⟩
          have hB : Below wr.heap.size wr w2 := by subst hw2; exact (below_new _ _).alloc (by simp) _
          have HO2 := Lib.hid (show w2.ownsMap Try.prog 9 (plainElem Try.prog 4) w.heap.size k D by subst hw2; exact (HO.out.alloc _).alloc _)
          have e0 : w2.cell? ⟨wr.heap.size, 0, none⟩ = some (.string (F0 k)) := by subst hw2; simp
          have e1 : w2.cell? ⟨wr.heap.size, 1, none⟩ = some (.int .i64 (F1 k)) := by subst hw2; simp
          have e2 : w2.cell? ⟨wr.heap.size, 2, none⟩ = some (.int .i64 (F2 k)) := by subst hw2; simp
          have e3 : w2.cell? ⟨wr.heap.size, 3, none⟩ = some (.slice (some ⟨G k, 0, none⟩) (N k) (N k)) := by subst hw2; simp
          clear hw2
          have hbel2 := hbel.trans (hB.mono hbel.size)
          have hlk := look_run HO2.out HSD.out (F0 k) hs0
          have HQ2 := Lib.hid (row_below HQ.out hB HQ.out.lt)
          clear c0 c1 c2 c3 hB HO HQ
          rw [HR.out] at e3
          have q0 : w2.cell? ⟨G k, r, none⟩ = some (.int .i64 (Z k r)) := by have := HQ2.out.cell (i := r) (by rw [HR.out]; omega); simpa [rowInts] using this
          go_wp2
          go_ret
          exact ⟨by rw [HF.out]; rfl, hbel2⟩

set_option maxHeartbeats 400000 in
theorem SpecValidStep_any (g n : Nat) (F0 : Nat → ByteArray) (F1 F2 : Nat → Int) (G N : Nat → Nat) (Z : Nat → Nat → Int) (w : World) (hn : n ≤ 1048576) (hN : ∀ i, i < n → N i ≤ 1048576) (h1 : DpStep w g n F0 F1 F2 G N Z) (hS0 : ∀ i, i < n → (F0 i).size ≤ maxLen) :
    Calls Try.prog 40 #[.slice (some ⟨g, 0, none⟩) n n] w fun e w' => e = .returned (.bool (listStep n F0 F1 F2 N Z)) ∧ Below w.heap.size w w' := by
  have H1 := Lib.hid h1
  have HN := Lib.hid hN
  have HM := Lib.hid hn
  have HS0 := Lib.hid hS0
  clear h1 hN hS0 hn
  go_enter Try.func40, Try.ntmps40
  go_wp2_with (go_at_call 101; refine (OkStep_any g n F0 F1 F2 G N Z _ HM.out HN.out H1.out HS0.out).mono ?_; rintro e w' ⟨rfl, hbel⟩)
  go_ret
  exact ⟨rfl, hbel⟩
end Go.Proofs.Ytllmillhdmknpaa
