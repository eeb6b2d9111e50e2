/- The contracts of the validity of outlines. -/
import Derived.Test.YtnfdodgecbibjaaArcO
namespace Go.Proofs.Ytnfdodgecbibjaa
open Go.RowKit
attribute [local go_sem ↓] Go.wp_at_zero Go.wp_at_succ
set_option linter.unusedVariables false

theorem beqT {a b : Int} (h : a = b) : (a == b) = true := by simpa using h

theorem beqF {a b : Int} (h : ¬ a = b) : (a == b) = false := by simpa using h

/-- The place behind k, in a ring of n. -/
def nx (n k : Nat) : Nat := if k + 1 = n then 0 else k + 1

theorem nx_lt {n k : Nat} (h : k < n) : nx n k < n := by unfold nx; split <;> omega

theorem nx_mod {n k : Nat} (h : k < n) : ((k : Int) + 1) % (n : Int) = ((nx n k : Nat) : Int) := by
  unfold nx
  split
  · rename_i e; rw [← e]; simp
  · rw [Int.emod_eq_of_lt (by omega) (by omega)]; simp

/-- The arc at place k is valid and ends where the next one begins. -/
def okArc (n : Nat) (F0 : Nat → Int) (F1 : Nat → Int) (F2 : Nat → Int) (F3 : Nat → Int) (F4 : Nat → Int) (F5 : Nat → Int) (k : Nat) : Bool := vArc (F0 k) (F1 k) (F2 k) (F3 k) (F4 k) (F5 k) && (decide (F2 (nx n k) = F4 k) && decide (F3 (nx n k) = F5 k))

/-- An outline. -/
def listArc (n : Nat) (F0 : Nat → Int) (F1 : Nat → Int) (F2 : Nat → Int) (F3 : Nat → Int) (F4 : Nat → Int) (F5 : Nat → Int) : Bool := allB n (okArc n F0 F1 F2 F3 F4 F5) && inB (n : Int) 2 16

theorem listArc_out {n : Nat} {F0 : Nat → Int} {F1 : Nat → Int} {F2 : Nat → Int} {F3 : Nat → Int} {F4 : Nat → Int} {F5 : Nat → Int} (k : Nat) (hk : k < n) (h : okArc n F0 F1 F2 F3 F4 F5 k = false) : listArc n F0 F1 F2 F3 F4 F5 = false := by
  unfold listArc; rw [allB_false k hk h]; rfl

theorem listArc_end {n : Nat} {F0 : Nat → Int} {F1 : Nat → Int} {F2 : Nat → Int} {F3 : Nat → Int} {F4 : Nat → Int} {F5 : Nat → Int} (h : allB n (okArc n F0 F1 F2 F3 F4 F5) = true) : listArc n F0 F1 F2 F3 F4 F5 = inB (n : Int) 2 16 := by
  unfold listArc; rw [h]; rfl

theorem listArc_at {n : Nat} {F0 : Nat → Int} {F1 : Nat → Int} {F2 : Nat → Int} {F3 : Nat → Int} {F4 : Nat → Int} {F5 : Nat → Int} (h : listArc n F0 F1 F2 F3 F4 F5 = true) (k : Nat) (hk : k < n) : vArc (F0 k) (F1 k) (F2 k) (F3 k) (F4 k) (F5 k) = true := by
  unfold listArc at h
  rw [Bool.and_eq_true] at h
  have h2 := allB_at h.1 k hk
  unfold okArc at h2
  rw [Bool.and_eq_true] at h2
  exact h2.1

theorem listArc_n {n : Nat} {F0 : Nat → Int} {F1 : Nat → Int} {F2 : Nat → Int} {F3 : Nat → Int} {F4 : Nat → Int} {F5 : Nat → Int} (h : listArc n F0 F1 F2 F3 F4 F5 = true) : 2 ≤ n ∧ n ≤ 16 := by
  unfold listArc at h
  rw [Bool.and_eq_true] at h
  have := inB_true h.2
  omega

theorem field_from (a b c d e f : Int) (w : World) : (Instr.field 43 (.agg #[.int .i64 a, .int .i64 b, .int .i64 c, .int .i64 d, .int .i64 e, .int .i64 f]) 1).run Try.prog w = .ok (.agg #[.int .i64 c, .int .i64 d]) w := by kernel_rfl

set_option maxHeartbeats 4000000 in
theorem OkArc_any (g n : Nat) (F0 : Nat → Int) (F1 : Nat → Int) (F2 : Nat → Int) (F3 : Nat → Int) (F4 : Nat → Int) (F5 : Nat → Int)  (w : World) (t1 : TypeId) (hn : n ≤ 1048576) (h1 : w.rowIs g t1 (n * 6) (flat 6 (rowArc F0 F1 F2 F3 F4 F5)))   :
    Calls Try.prog 26 #[.slice (some ⟨g, 0, none⟩) n n] w fun e w' => e = .returned (.bool (listArc n F0 F1 F2 F3 F4 F5)) ∧ Below w.heap.size w w' := by
  have hl1 := h1.lt
  have HR1 := Lib.hid (RdArc.of_row h1)
  have H1 := Lib.hid h1
  clear h1 
  go_enter Try.func26, Try.ntmps26
  go_wp2
  go_loopw [4] (fun i wr => ∃ (k : Nat), k ≤ n ∧ i = .int .i64 k ∧ Below w.heap.size w wr ∧ allB k (okArc n F0 F1 F2 F3 F4 F5) = true) (fun i _ => n - (intOf i).toNat)
  case atStart => exact ⟨0, Nat.zero_le _, rfl, Below.refl _ _, rfl⟩
  case round =>
    obtain ⟨k, hk, rfl, hbel, ha⟩ := hrel
    have HA := Lib.hid ha
    clear ha
    by_cases hlt : k < n
    · have hlti : (k : Int) < (n : Int) := by omega
      have hki : (0 : Int) ≤ (k : Int) := by omega
      have hgl : g < wr.heap.size := Nat.lt_of_lt_of_le hl1 hbel.size
      obtain ⟨c0, c1, c2, c3, c4, c5⟩ := HR1.out k hlt
      have hbc := bcell hbel
      rw [← hbc _ _ hl1] at c0 c1 c2 c3 c4 c5
      simp only [Nat.zero_add] at c0 c1 c2 c3 c4 c5
      clear hbc
      obtain ⟨j, hj⟩ : ∃ j, nx n k = j := ⟨_, rfl⟩
      have hjn : j < n := hj ▸ nx_lt hlt
      have hm : ((k : Int) + 1) % (n : Int) = (j : Int) := hj ▸ nx_mod hlt
      have hj0 : (0 : Int) ≤ (j : Int) := by omega
      have hji : (j : Int) < (n : Int) := by omega
      have HJ := Lib.hid hj
      clear hj
      obtain ⟨d0, d1, d2, d3, d4, d5⟩ := HR1.out j hjn
      rw [← bcell hbel _ _ hl1] at d0 d1 d2 d3 d4 d5
      simp only [Nat.zero_add] at d0 d1 d2 d3 d4 d5
      by_cases hv : vArc (F0 k) (F1 k) (F2 k) (F3 k) (F4 k) (F5 k) = true
      case neg =>
        have hvn : vArc (F0 k) (F1 k) (F2 k) (F3 k) (F4 k) (F5 k) = false := by simpa using hv
        clear hv
        have HF := Lib.hid (listArc_out (n := n) (F0 := F0) (F1 := F1) (F2 := F2) (F3 := F3) (F4 := F4) (F5 := F5) k hlt (by unfold okArc; rw [hvn]; rfl))
        go_wp2
        have y0 := Ext.cell (W := wr) (b := g) (o := k * 6) (u := .int .i64 (F0 k)) c0 hgl
        have y1 := Ext.cell (W := wr) (b := g) (o := k * 6 + 1) (u := .int .i64 (F1 k)) c1 hgl
        have y2 := Ext.cell (W := wr) (b := g) (o := k * 6 + 2) (u := .int .i64 (F2 k)) c2 hgl
        have y3 := Ext.cell (W := wr) (b := g) (o := k * 6 + 3) (u := .int .i64 (F3 k)) c3 hgl
        have y3b := Ext.cell (W := wr) (b := g) (o := k * 6 + 2 + 1) (u := .int .i64 (F3 k)) c3 hgl
        have y4 := Ext.cell (W := wr) (b := g) (o := k * 6 + 4) (u := .int .i64 (F4 k)) c4 hgl
        have y5 := Ext.cell (W := wr) (b := g) (o := k * 6 + 5) (u := .int .i64 (F5 k)) c5 hgl
        have y5b := Ext.cell (W := wr) (b := g) (o := k * 6 + 4 + 1) (u := .int .i64 (F5 k)) c5 hgl
        have u0 := Ext.cell (W := wr) (b := g) (o := j * 6) (u := .int .i64 (F0 j)) d0 hgl
        have u1 := Ext.cell (W := wr) (b := g) (o := j * 6 + 1) (u := .int .i64 (F1 j)) d1 hgl
        have u2 := Ext.cell (W := wr) (b := g) (o := j * 6 + 2) (u := .int .i64 (F2 j)) d2 hgl
        have u3 := Ext.cell (W := wr) (b := g) (o := j * 6 + 3) (u := .int .i64 (F3 j)) d3 hgl
        have u3b := Ext.cell (W := wr) (b := g) (o := j * 6 + 2 + 1) (u := .int .i64 (F3 j)) d3 hgl
        have u4 := Ext.cell (W := wr) (b := g) (o := j * 6 + 4) (u := .int .i64 (F4 j)) d4 hgl
        have u5 := Ext.cell (W := wr) (b := g) (o := j * 6 + 5) (u := .int .i64 (F5 j)) d5 hgl
        have u5b := Ext.cell (W := wr) (b := g) (o := j * 6 + 4 + 1) (u := .int .i64 (F5 j)) d5 hgl
        refine wp_region_ext (by kernel_rfl) (by kernel_rfl) ?_
        repeat (go_big_quiet_step ((go_at_call 39; exact ext_call (calls_b (l05One_any _ _ _ _ _ _ _ _ _ (y0 _) (y1 _) (y2 _) (y3 _) (y4 _) (y5 _) (Nat.lt_of_lt_of_le hgl (Ext.h _).size)) (by assumption)))))
        refine wpQuiet_nil ?_
        intro W1 hx
        obtain ⟨x, hx⟩ := hx
        have hW1 := x.h
        rw [← hx] at hW1
        clear hx x y0 y1 y2 y3 y3b y4 y5 y5b u0 u1 u2 u3 u3b u4 u5 u5b
        have hbel2 := hbel.trans (hW1.mono hbel.size)
        go_wp2
        go_ret
        exact ⟨by rw [HF.out]; rfl, hbel2⟩
      by_cases q1 : F2 j = F4 k
      case neg =>
        have HF := Lib.hid (listArc_out (n := n) (F0 := F0) (F1 := F1) (F2 := F2) (F3 := F3) (F4 := F4) (F5 := F5) k hlt (by unfold okArc; rw [HJ.out, hv, decide_eq_false q1]; rfl))
        have qb : (F4 k == F2 j) = false := beqF (fun h => q1 h.symm)
        clear q1
        go_wp2
        have y0 := Ext.cell (W := wr) (b := g) (o := k * 6) (u := .int .i64 (F0 k)) c0 hgl
        have y1 := Ext.cell (W := wr) (b := g) (o := k * 6 + 1) (u := .int .i64 (F1 k)) c1 hgl
        have y2 := Ext.cell (W := wr) (b := g) (o := k * 6 + 2) (u := .int .i64 (F2 k)) c2 hgl
        have y3 := Ext.cell (W := wr) (b := g) (o := k * 6 + 3) (u := .int .i64 (F3 k)) c3 hgl
        have y3b := Ext.cell (W := wr) (b := g) (o := k * 6 + 2 + 1) (u := .int .i64 (F3 k)) c3 hgl
        have y4 := Ext.cell (W := wr) (b := g) (o := k * 6 + 4) (u := .int .i64 (F4 k)) c4 hgl
        have y5 := Ext.cell (W := wr) (b := g) (o := k * 6 + 5) (u := .int .i64 (F5 k)) c5 hgl
        have y5b := Ext.cell (W := wr) (b := g) (o := k * 6 + 4 + 1) (u := .int .i64 (F5 k)) c5 hgl
        have u0 := Ext.cell (W := wr) (b := g) (o := j * 6) (u := .int .i64 (F0 j)) d0 hgl
        have u1 := Ext.cell (W := wr) (b := g) (o := j * 6 + 1) (u := .int .i64 (F1 j)) d1 hgl
        have u2 := Ext.cell (W := wr) (b := g) (o := j * 6 + 2) (u := .int .i64 (F2 j)) d2 hgl
        have u3 := Ext.cell (W := wr) (b := g) (o := j * 6 + 3) (u := .int .i64 (F3 j)) d3 hgl
        have u3b := Ext.cell (W := wr) (b := g) (o := j * 6 + 2 + 1) (u := .int .i64 (F3 j)) d3 hgl
        have u4 := Ext.cell (W := wr) (b := g) (o := j * 6 + 4) (u := .int .i64 (F4 j)) d4 hgl
        have u5 := Ext.cell (W := wr) (b := g) (o := j * 6 + 5) (u := .int .i64 (F5 j)) d5 hgl
        have u5b := Ext.cell (W := wr) (b := g) (o := j * 6 + 4 + 1) (u := .int .i64 (F5 j)) d5 hgl
        refine wp_region_ext (by kernel_rfl) (by kernel_rfl) ?_
        repeat (go_big_quiet_step ((go_at_call 39; exact ext_call (calls_b (l05One_any _ _ _ _ _ _ _ _ _ (y0 _) (y1 _) (y2 _) (y3 _) (y4 _) (y5 _) (Nat.lt_of_lt_of_le hgl (Ext.h _).size)) (by assumption)))))
        refine wpQuiet_nil ?_
        intro W1 hx
        obtain ⟨x, hx⟩ := hx
        have hW1 := x.h
        rw [← hx] at hW1
        clear hx x y0 y1 y2 y3 y3b y4 y5 y5b u0 u1 u2 u3 u3b u4 u5 u5b
        have hbel2 := hbel.trans (hW1.mono hbel.size)
        go_wp2
        go_ret
        exact ⟨by rw [HF.out]; rfl, hbel2⟩
      by_cases q2 : F3 j = F5 k
      case neg =>
        have HF := Lib.hid (listArc_out (n := n) (F0 := F0) (F1 := F1) (F2 := F2) (F3 := F3) (F4 := F4) (F5 := F5) k hlt (by unfold okArc; rw [HJ.out, hv, decide_eq_true q1, decide_eq_false q2]; rfl))
        have qa : (F4 k == F2 j) = true := beqT q1.symm
        have qb : (F5 k == F3 j) = false := beqF (fun h => q2 h.symm)
        clear q1 q2
        go_wp2
        have y0 := Ext.cell (W := wr) (b := g) (o := k * 6) (u := .int .i64 (F0 k)) c0 hgl
        have y1 := Ext.cell (W := wr) (b := g) (o := k * 6 + 1) (u := .int .i64 (F1 k)) c1 hgl
        have y2 := Ext.cell (W := wr) (b := g) (o := k * 6 + 2) (u := .int .i64 (F2 k)) c2 hgl
        have y3 := Ext.cell (W := wr) (b := g) (o := k * 6 + 3) (u := .int .i64 (F3 k)) c3 hgl
        have y3b := Ext.cell (W := wr) (b := g) (o := k * 6 + 2 + 1) (u := .int .i64 (F3 k)) c3 hgl
        have y4 := Ext.cell (W := wr) (b := g) (o := k * 6 + 4) (u := .int .i64 (F4 k)) c4 hgl
        have y5 := Ext.cell (W := wr) (b := g) (o := k * 6 + 5) (u := .int .i64 (F5 k)) c5 hgl
        have y5b := Ext.cell (W := wr) (b := g) (o := k * 6 + 4 + 1) (u := .int .i64 (F5 k)) c5 hgl
        have u0 := Ext.cell (W := wr) (b := g) (o := j * 6) (u := .int .i64 (F0 j)) d0 hgl
        have u1 := Ext.cell (W := wr) (b := g) (o := j * 6 + 1) (u := .int .i64 (F1 j)) d1 hgl
        have u2 := Ext.cell (W := wr) (b := g) (o := j * 6 + 2) (u := .int .i64 (F2 j)) d2 hgl
        have u3 := Ext.cell (W := wr) (b := g) (o := j * 6 + 3) (u := .int .i64 (F3 j)) d3 hgl
        have u3b := Ext.cell (W := wr) (b := g) (o := j * 6 + 2 + 1) (u := .int .i64 (F3 j)) d3 hgl
        have u4 := Ext.cell (W := wr) (b := g) (o := j * 6 + 4) (u := .int .i64 (F4 j)) d4 hgl
        have u5 := Ext.cell (W := wr) (b := g) (o := j * 6 + 5) (u := .int .i64 (F5 j)) d5 hgl
        have u5b := Ext.cell (W := wr) (b := g) (o := j * 6 + 4 + 1) (u := .int .i64 (F5 j)) d5 hgl
        refine wp_region_ext (by kernel_rfl) (by kernel_rfl) ?_
        repeat (go_big_quiet_step ((go_at_call 39; exact ext_call (calls_b (l05One_any _ _ _ _ _ _ _ _ _ (y0 _) (y1 _) (y2 _) (y3 _) (y4 _) (y5 _) (Nat.lt_of_lt_of_le hgl (Ext.h _).size)) (by assumption)))))
        refine wpQuiet_nil ?_
        intro W1 hx
        obtain ⟨x, hx⟩ := hx
        have hW1 := x.h
        rw [← hx] at hW1
        clear hx x y0 y1 y2 y3 y3b y4 y5 y5b u0 u1 u2 u3 u3b u4 u5 u5b
        have hbel2 := hbel.trans (hW1.mono hbel.size)
        go_wp2
        go_ret
        exact ⟨by rw [HF.out]; rfl, hbel2⟩
      have HK := Lib.hid (show okArc n F0 F1 F2 F3 F4 F5 k = true by unfold okArc; rw [HJ.out, hv, decide_eq_true q1, decide_eq_true q2]; rfl)
      have qa : (F4 k == F2 j) = true := beqT q1.symm
      have qb : (F5 k == F3 j) = true := beqT q2.symm
      clear q1 q2
      go_wp2
      have y0 := Ext.cell (W := wr) (b := g) (o := k * 6) (u := .int .i64 (F0 k)) c0 hgl
      have y1 := Ext.cell (W := wr) (b := g) (o := k * 6 + 1) (u := .int .i64 (F1 k)) c1 hgl
      have y2 := Ext.cell (W := wr) (b := g) (o := k * 6 + 2) (u := .int .i64 (F2 k)) c2 hgl
      have y3 := Ext.cell (W := wr) (b := g) (o := k * 6 + 3) (u := .int .i64 (F3 k)) c3 hgl
      have y3b := Ext.cell (W := wr) (b := g) (o := k * 6 + 2 + 1) (u := .int .i64 (F3 k)) c3 hgl
      have y4 := Ext.cell (W := wr) (b := g) (o := k * 6 + 4) (u := .int .i64 (F4 k)) c4 hgl
      have y5 := Ext.cell (W := wr) (b := g) (o := k * 6 + 5) (u := .int .i64 (F5 k)) c5 hgl
      have y5b := Ext.cell (W := wr) (b := g) (o := k * 6 + 4 + 1) (u := .int .i64 (F5 k)) c5 hgl
      have u0 := Ext.cell (W := wr) (b := g) (o := j * 6) (u := .int .i64 (F0 j)) d0 hgl
      have u1 := Ext.cell (W := wr) (b := g) (o := j * 6 + 1) (u := .int .i64 (F1 j)) d1 hgl
      have u2 := Ext.cell (W := wr) (b := g) (o := j * 6 + 2) (u := .int .i64 (F2 j)) d2 hgl
      have u3 := Ext.cell (W := wr) (b := g) (o := j * 6 + 3) (u := .int .i64 (F3 j)) d3 hgl
      have u3b := Ext.cell (W := wr) (b := g) (o := j * 6 + 2 + 1) (u := .int .i64 (F3 j)) d3 hgl
      have u4 := Ext.cell (W := wr) (b := g) (o := j * 6 + 4) (u := .int .i64 (F4 j)) d4 hgl
      have u5 := Ext.cell (W := wr) (b := g) (o := j * 6 + 5) (u := .int .i64 (F5 j)) d5 hgl
      have u5b := Ext.cell (W := wr) (b := g) (o := j * 6 + 4 + 1) (u := .int .i64 (F5 j)) d5 hgl
      refine wp_region_ext (by kernel_rfl) (by kernel_rfl) ?_
      repeat (go_big_quiet_step ((go_at_call 39; exact ext_call (calls_b (l05One_any _ _ _ _ _ _ _ _ _ (y0 _) (y1 _) (y2 _) (y3 _) (y4 _) (y5 _) (Nat.lt_of_lt_of_le hgl (Ext.h _).size)) (by assumption)))))
      refine wpQuiet_nil ?_
      intro W1 hx
      obtain ⟨x, hx⟩ := hx
      have hW1 := x.h
      rw [← hx] at hW1
      clear hx x y0 y1 y2 y3 y3b y4 y5 y5b u0 u1 u2 u3 u3b u4 u5 u5b
      have hbel2 := hbel.trans (hW1.mono hbel.size)
      go_wp2
      go_roundw
      case rel => exact ⟨k + 1, by omega, by go_num, hbel2, by rw [allB_succ, HA.out, HK.out]; rfl⟩
      case measure => simp [intOf]; omega
    · obtain rfl : k = n := by omega
      have HF := Lib.hid (listArc_end HA.out)
      by_cases h2 : (2 : Int) ≤ (k : Int)
      · have HG := Lib.hid (show inB (k : Int) 2 16 = decide ((k : Int) ≤ 16) by unfold inB; rw [decide_eq_true h2]; rfl)
        go_wp2
        go_ret
        exact ⟨by rw [HF.out, HG.out]; rfl, hbel⟩
      · have HG := Lib.hid (show inB (k : Int) 2 16 = false by unfold inB; rw [decide_eq_false h2]; rfl)
        have h3 : (k : Int) < 2 := by omega
        go_wp2
        go_ret
        exact ⟨by rw [HF.out, HG.out]; rfl, hbel⟩

set_option maxHeartbeats 4000000 in
theorem ValidArcs_any (g n : Nat) (F0 : Nat → Int) (F1 : Nat → Int) (F2 : Nat → Int) (F3 : Nat → Int) (F4 : Nat → Int) (F5 : Nat → Int)  (w : World) (t1 : TypeId) (hn : n ≤ 1048576) (h1 : w.rowIs g t1 (n * 6) (flat 6 (rowArc F0 F1 F2 F3 F4 F5)))   :
    Calls Try.prog 29 #[.slice (some ⟨g, 0, none⟩) n n] w fun e w' => e = .returned (.bool (listArc n F0 F1 F2 F3 F4 F5)) ∧ Below w.heap.size w w' := by
  have hl1 := h1.lt
  have HR1 := Lib.hid (RdArc.of_row h1)
  have H1 := Lib.hid h1
  clear h1 
  go_enter Try.func29, Try.ntmps29
  go_wp2
  go_loopw [7] (fun i wr => ∃ (k : Nat), k ≤ n ∧ i = .int .i64 k ∧ Below w.heap.size w wr ∧ allB k (okArc n F0 F1 F2 F3 F4 F5) = true) (fun i _ => n - (intOf i).toNat)
  case atStart => exact ⟨0, Nat.zero_le _, rfl, Below.refl _ _, rfl⟩
  case round =>
    obtain ⟨k, hk, rfl, hbel, ha⟩ := hrel
    have HA := Lib.hid ha
    clear ha
    by_cases hlt : k < n
    · have hlti : (k : Int) < (n : Int) := by omega
      have hki : (0 : Int) ≤ (k : Int) := by omega
      have hgl : g < wr.heap.size := Nat.lt_of_lt_of_le hl1 hbel.size
      obtain ⟨c0, c1, c2, c3, c4, c5⟩ := HR1.out k hlt
      have hbc := bcell hbel
      rw [← hbc _ _ hl1] at c0 c1 c2 c3 c4 c5
      simp only [Nat.zero_add] at c0 c1 c2 c3 c4 c5
      clear hbc
      obtain ⟨j, hj⟩ : ∃ j, nx n k = j := ⟨_, rfl⟩
      have hjn : j < n := hj ▸ nx_lt hlt
      have hm : ((k : Int) + 1) % (n : Int) = (j : Int) := hj ▸ nx_mod hlt
      have hj0 : (0 : Int) ≤ (j : Int) := by omega
      have hji : (j : Int) < (n : Int) := by omega
      have HJ := Lib.hid hj
      clear hj
      have hfd := field_from (F0 j) (F1 j) (F2 j) (F3 j) (F4 j) (F5 j)
      have HRa := Lib.hid ((row_below H1.out hbel hl1).alloc (.cells #[.int .i64 (F0 k), .int .i64 (F1 k), .int .i64 (F2 k), .int .i64 (F3 k), .int .i64 (F4 k), .int .i64 (F5 k)] 43))
      by_cases hv : vArc (F0 k) (F1 k) (F2 k) (F3 k) (F4 k) (F5 k) = true
      case neg =>
        have hvn : vArc (F0 k) (F1 k) (F2 k) (F3 k) (F4 k) (F5 k) = false := by simpa using hv
        clear hv
        have HF := Lib.hid (listArc_out (n := n) (F0 := F0) (F1 := F1) (F2 := F2) (F3 := F3) (F4 := F4) (F5 := F5) k hlt (by unfold okArc; rw [hvn]; rfl))
        go_wp2
        have y0 := Ext.cell (W := (wr.alloc (.cells #[.int .i64 (F0 k), .int .i64 (F1 k), .int .i64 (F2 k), .int .i64 (F3 k), .int .i64 (F4 k), .int .i64 (F5 k)] 43))) (b := wr.heap.size) (o := 0) (u := .int .i64 (F0 k)) (by simp) (by simp)
        have y1 := Ext.cell (W := (wr.alloc (.cells #[.int .i64 (F0 k), .int .i64 (F1 k), .int .i64 (F2 k), .int .i64 (F3 k), .int .i64 (F4 k), .int .i64 (F5 k)] 43))) (b := wr.heap.size) (o := 1) (u := .int .i64 (F1 k)) (by simp) (by simp)
        have y2 := Ext.cell (W := (wr.alloc (.cells #[.int .i64 (F0 k), .int .i64 (F1 k), .int .i64 (F2 k), .int .i64 (F3 k), .int .i64 (F4 k), .int .i64 (F5 k)] 43))) (b := wr.heap.size) (o := 2) (u := .int .i64 (F2 k)) (by simp) (by simp)
        have y3 := Ext.cell (W := (wr.alloc (.cells #[.int .i64 (F0 k), .int .i64 (F1 k), .int .i64 (F2 k), .int .i64 (F3 k), .int .i64 (F4 k), .int .i64 (F5 k)] 43))) (b := wr.heap.size) (o := 3) (u := .int .i64 (F3 k)) (by simp) (by simp)
        have y4 := Ext.cell (W := (wr.alloc (.cells #[.int .i64 (F0 k), .int .i64 (F1 k), .int .i64 (F2 k), .int .i64 (F3 k), .int .i64 (F4 k), .int .i64 (F5 k)] 43))) (b := wr.heap.size) (o := 4) (u := .int .i64 (F4 k)) (by simp) (by simp)
        have y5 := Ext.cell (W := (wr.alloc (.cells #[.int .i64 (F0 k), .int .i64 (F1 k), .int .i64 (F2 k), .int .i64 (F3 k), .int .i64 (F4 k), .int .i64 (F5 k)] 43))) (b := wr.heap.size) (o := 5) (u := .int .i64 (F5 k)) (by simp) (by simp)
        refine wp_region_ext (by kernel_rfl) (by kernel_rfl) ?_
        repeat (go_big_quiet_step (first | (go_at_call 41; exact ext_call (calls_b (ValidArc_any _ _ _ _ _ _ _) (by assumption))) | (go_at_call 42; exact ext_call (next_any g n k j F0 F1 F2 F3 F4 F5 _ t1 hn hlt hjn hm (Ext.row HRa.out _)))))
        refine wpQuiet_nil ?_
        intro W1 hx
        obtain ⟨x, hx⟩ := hx
        have hW1 := x.h
        rw [← hx] at hW1
        clear hx x y0 y1 y2 y3 y4 y5
        have hbel2 := below_ext hbel hW1
        go_wp2
        go_ret
        exact ⟨by rw [HF.out]; rfl, hbel2⟩
      by_cases q1 : F2 j = F4 k
      case neg =>
        have HF := Lib.hid (listArc_out (n := n) (F0 := F0) (F1 := F1) (F2 := F2) (F3 := F3) (F4 := F4) (F5 := F5) k hlt (by unfold okArc; rw [HJ.out, hv, decide_eq_false q1]; rfl))
        have qb : (F2 j == F4 k) = false := beqF q1
        clear q1
        go_wp2
        have y0 := Ext.cell (W := (wr.alloc (.cells #[.int .i64 (F0 k), .int .i64 (F1 k), .int .i64 (F2 k), .int .i64 (F3 k), .int .i64 (F4 k), .int .i64 (F5 k)] 43))) (b := wr.heap.size) (o := 0) (u := .int .i64 (F0 k)) (by simp) (by simp)
        have y1 := Ext.cell (W := (wr.alloc (.cells #[.int .i64 (F0 k), .int .i64 (F1 k), .int .i64 (F2 k), .int .i64 (F3 k), .int .i64 (F4 k), .int .i64 (F5 k)] 43))) (b := wr.heap.size) (o := 1) (u := .int .i64 (F1 k)) (by simp) (by simp)
        have y2 := Ext.cell (W := (wr.alloc (.cells #[.int .i64 (F0 k), .int .i64 (F1 k), .int .i64 (F2 k), .int .i64 (F3 k), .int .i64 (F4 k), .int .i64 (F5 k)] 43))) (b := wr.heap.size) (o := 2) (u := .int .i64 (F2 k)) (by simp) (by simp)
        have y3 := Ext.cell (W := (wr.alloc (.cells #[.int .i64 (F0 k), .int .i64 (F1 k), .int .i64 (F2 k), .int .i64 (F3 k), .int .i64 (F4 k), .int .i64 (F5 k)] 43))) (b := wr.heap.size) (o := 3) (u := .int .i64 (F3 k)) (by simp) (by simp)
        have y4 := Ext.cell (W := (wr.alloc (.cells #[.int .i64 (F0 k), .int .i64 (F1 k), .int .i64 (F2 k), .int .i64 (F3 k), .int .i64 (F4 k), .int .i64 (F5 k)] 43))) (b := wr.heap.size) (o := 4) (u := .int .i64 (F4 k)) (by simp) (by simp)
        have y5 := Ext.cell (W := (wr.alloc (.cells #[.int .i64 (F0 k), .int .i64 (F1 k), .int .i64 (F2 k), .int .i64 (F3 k), .int .i64 (F4 k), .int .i64 (F5 k)] 43))) (b := wr.heap.size) (o := 5) (u := .int .i64 (F5 k)) (by simp) (by simp)
        refine wp_region_ext (by kernel_rfl) (by kernel_rfl) ?_
        repeat (go_big_quiet_step (first | (go_at_call 41; exact ext_call (calls_b (ValidArc_any _ _ _ _ _ _ _) (by assumption))) | (go_at_call 42; exact ext_call (next_any g n k j F0 F1 F2 F3 F4 F5 _ t1 hn hlt hjn hm (Ext.row HRa.out _)))))
        refine wpQuiet_nil ?_
        intro W1 hx
        obtain ⟨x, hx⟩ := hx
        have hW1 := x.h
        rw [← hx] at hW1
        clear hx x y0 y1 y2 y3 y4 y5
        have hbel2 := below_ext hbel hW1
        go_wp2
        go_ret
        exact ⟨by rw [HF.out]; rfl, hbel2⟩
      by_cases q2 : F3 j = F5 k
      case neg =>
        have HF := Lib.hid (listArc_out (n := n) (F0 := F0) (F1 := F1) (F2 := F2) (F3 := F3) (F4 := F4) (F5 := F5) k hlt (by unfold okArc; rw [HJ.out, hv, decide_eq_true q1, decide_eq_false q2]; rfl))
        have qa : (F2 j == F4 k) = true := beqT q1
        have qb : (F3 j == F5 k) = false := beqF q2
        clear q1 q2
        go_wp2
        have y0 := Ext.cell (W := (wr.alloc (.cells #[.int .i64 (F0 k), .int .i64 (F1 k), .int .i64 (F2 k), .int .i64 (F3 k), .int .i64 (F4 k), .int .i64 (F5 k)] 43))) (b := wr.heap.size) (o := 0) (u := .int .i64 (F0 k)) (by simp) (by simp)
        have y1 := Ext.cell (W := (wr.alloc (.cells #[.int .i64 (F0 k), .int .i64 (F1 k), .int .i64 (F2 k), .int .i64 (F3 k), .int .i64 (F4 k), .int .i64 (F5 k)] 43))) (b := wr.heap.size) (o := 1) (u := .int .i64 (F1 k)) (by simp) (by simp)
        have y2 := Ext.cell (W := (wr.alloc (.cells #[.int .i64 (F0 k), .int .i64 (F1 k), .int .i64 (F2 k), .int .i64 (F3 k), .int .i64 (F4 k), .int .i64 (F5 k)] 43))) (b := wr.heap.size) (o := 2) (u := .int .i64 (F2 k)) (by simp) (by simp)
        have y3 := Ext.cell (W := (wr.alloc (.cells #[.int .i64 (F0 k), .int .i64 (F1 k), .int .i64 (F2 k), .int .i64 (F3 k), .int .i64 (F4 k), .int .i64 (F5 k)] 43))) (b := wr.heap.size) (o := 3) (u := .int .i64 (F3 k)) (by simp) (by simp)
        have y4 := Ext.cell (W := (wr.alloc (.cells #[.int .i64 (F0 k), .int .i64 (F1 k), .int .i64 (F2 k), .int .i64 (F3 k), .int .i64 (F4 k), .int .i64 (F5 k)] 43))) (b := wr.heap.size) (o := 4) (u := .int .i64 (F4 k)) (by simp) (by simp)
        have y5 := Ext.cell (W := (wr.alloc (.cells #[.int .i64 (F0 k), .int .i64 (F1 k), .int .i64 (F2 k), .int .i64 (F3 k), .int .i64 (F4 k), .int .i64 (F5 k)] 43))) (b := wr.heap.size) (o := 5) (u := .int .i64 (F5 k)) (by simp) (by simp)
        refine wp_region_ext (by kernel_rfl) (by kernel_rfl) ?_
        repeat (go_big_quiet_step (first | (go_at_call 41; exact ext_call (calls_b (ValidArc_any _ _ _ _ _ _ _) (by assumption))) | (go_at_call 42; exact ext_call (next_any g n k j F0 F1 F2 F3 F4 F5 _ t1 hn hlt hjn hm (Ext.row HRa.out _)))))
        refine wpQuiet_nil ?_
        intro W1 hx
        obtain ⟨x, hx⟩ := hx
        have hW1 := x.h
        rw [← hx] at hW1
        clear hx x y0 y1 y2 y3 y4 y5
        have hbel2 := below_ext hbel hW1
        go_wp2
        go_ret
        exact ⟨by rw [HF.out]; rfl, hbel2⟩
      have HK := Lib.hid (show okArc n F0 F1 F2 F3 F4 F5 k = true by unfold okArc; rw [HJ.out, hv, decide_eq_true q1, decide_eq_true q2]; rfl)
      have qa : (F2 j == F4 k) = true := beqT q1
      have qb : (F3 j == F5 k) = true := beqT q2
      clear q1 q2
      go_wp2
      have y0 := Ext.cell (W := (wr.alloc (.cells #[.int .i64 (F0 k), .int .i64 (F1 k), .int .i64 (F2 k), .int .i64 (F3 k), .int .i64 (F4 k), .int .i64 (F5 k)] 43))) (b := wr.heap.size) (o := 0) (u := .int .i64 (F0 k)) (by simp) (by simp)
      have y1 := Ext.cell (W := (wr.alloc (.cells #[.int .i64 (F0 k), .int .i64 (F1 k), .int .i64 (F2 k), .int .i64 (F3 k), .int .i64 (F4 k), .int .i64 (F5 k)] 43))) (b := wr.heap.size) (o := 1) (u := .int .i64 (F1 k)) (by simp) (by simp)
      have y2 := Ext.cell (W := (wr.alloc (.cells #[.int .i64 (F0 k), .int .i64 (F1 k), .int .i64 (F2 k), .int .i64 (F3 k), .int .i64 (F4 k), .int .i64 (F5 k)] 43))) (b := wr.heap.size) (o := 2) (u := .int .i64 (F2 k)) (by simp) (by simp)
      have y3 := Ext.cell (W := (wr.alloc (.cells #[.int .i64 (F0 k), .int .i64 (F1 k), .int .i64 (F2 k), .int .i64 (F3 k), .int .i64 (F4 k), .int .i64 (F5 k)] 43))) (b := wr.heap.size) (o := 3) (u := .int .i64 (F3 k)) (by simp) (by simp)
      have y4 := Ext.cell (W := (wr.alloc (.cells #[.int .i64 (F0 k), .int .i64 (F1 k), .int .i64 (F2 k), .int .i64 (F3 k), .int .i64 (F4 k), .int .i64 (F5 k)] 43))) (b := wr.heap.size) (o := 4) (u := .int .i64 (F4 k)) (by simp) (by simp)
      have y5 := Ext.cell (W := (wr.alloc (.cells #[.int .i64 (F0 k), .int .i64 (F1 k), .int .i64 (F2 k), .int .i64 (F3 k), .int .i64 (F4 k), .int .i64 (F5 k)] 43))) (b := wr.heap.size) (o := 5) (u := .int .i64 (F5 k)) (by simp) (by simp)
      refine wp_region_ext (by kernel_rfl) (by kernel_rfl) ?_
      repeat (go_big_quiet_step (first | (go_at_call 41; exact ext_call (calls_b (ValidArc_any _ _ _ _ _ _ _) (by assumption))) | (go_at_call 42; exact ext_call (next_any g n k j F0 F1 F2 F3 F4 F5 _ t1 hn hlt hjn hm (Ext.row HRa.out _)))))
      refine wpQuiet_nil ?_
      intro W1 hx
      obtain ⟨x, hx⟩ := hx
      have hW1 := x.h
      rw [← hx] at hW1
      clear hx x y0 y1 y2 y3 y4 y5
      have hbel2 := below_ext hbel hW1
      go_wp2
      go_roundw
      case rel => exact ⟨k + 1, by omega, by go_num, hbel2, by rw [allB_succ, HA.out, HK.out]; rfl⟩
      case measure => simp [intOf]; omega
    · obtain rfl : k = n := by omega
      have HF := Lib.hid (listArc_end HA.out)
      go_wp2_with (first | (go_at_call 43; refine (within_any _ _ _ _).mono ?_; rintro e w' ⟨rfl, rfl⟩))
      go_ret
      exact ⟨by rw [HF.out]; rfl, hbel⟩
end Go.Proofs.Ytnfdodgecbibjaa
