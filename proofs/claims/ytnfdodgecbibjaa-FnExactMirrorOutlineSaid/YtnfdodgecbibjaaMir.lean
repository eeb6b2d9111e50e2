/- The contracts of MirrorOutline. -/
import Derived.Test.YtnfdodgecbibjaaMir0
import Derived.ChangeAlike
import Derived.Deep.RegionHeld3
import Derived.Deep.AppendLies
namespace Go.Proofs.Ytnfdodgecbibjaa
open Go.RowKit
attribute [local go_sem ↓] Go.wp_at_zero Go.wp_at_succ
set_option linter.unusedVariables false

theorem takeL {P : Program} {md : Region.Mode} {Q : Exit → Act → World → Prop} {S : World → Prop} {l : List Oper} {i : Nat} {oi : Oper} {v : Value} {fuel : Nat} {listed : Array Bool} {a : Act} {w : World} (hi : l[i]? = some oi)
    (hs : Region.noSelect l.toArray = true) (hf : Region.free md l.toArray listed i = true) (hr : (Region.ready md l.toArray listed).contains i = true)
    (hQ : ∀ c a w, Q (.panic c) (a.put oi.dst v) w → Q (.panic c) a w) (hw : Region.wanted oi (yielded l.toArray a.tmps) = true) (hy : ∀ w, S w → (execOp a.eval oi).run P w = .ok (.value v) w) (hS : S w)
    (h : wpAnyH P md l.toArray Q S fuel (listed.setIfInBounds i true) (a.put oi.dst v) w) : wpAnyH P md l.toArray Q S (fuel + 1) listed a w :=
  wpAnyH_take (by simpa using hi) hs hf hr hQ (Or.inl ⟨hw, hy⟩) hS h

theorem consL {P : Program} {md : Region.Mode} {Q : Exit → Act → World → Prop} {S : World → Prop} {l : List Oper} {fuel : Nat} {listed : Array Bool} {a : Act} {w : World} {i : Nat} {o : Oper} {rs : List Nat} (ho : l[i]? = some o)
    (h : ∀ K : Act → World → Prop, Shut (∀ a w, S w → (S w → wpAnyH P md l.toArray Q S fuel (listed.setIfInBounds i true) a w) → K a w) → if Region.wanted o (yielded l.toArray a.tmps) = true then Oper.wp P o a w K Q else K (a.put o.dst undef) w)
    (hs : AllReadyH P md l.toArray Q S fuel listed a w rs) : AllReadyH P md l.toArray Q S fuel listed a w (i :: rs) := AllReadyH.cons (by simpa using ho) h hs

theorem arc_keep2 {w w' : World} {b : Nat} {v0 v1 v2 v3 v4 v5 : Value} (h : w.cell? ⟨b, 0, none⟩ = some v0 ∧ w.cell? ⟨b, 1, none⟩ = some v1 ∧ w.cell? ⟨b, 2, none⟩ = some v2 ∧ w.cell? ⟨b, 3, none⟩ = some v3 ∧ w.cell? ⟨b, 4, none⟩ = some v4 ∧ w.cell? ⟨b, 5, none⟩ = some v5) (hb : b < w.heap.size) (h2 : Below w.heap.size w w') : w'.cell? ⟨b, 0, none⟩ = some v0 ∧ w'.cell? ⟨b, 1, none⟩ = some v1 ∧ w'.cell? ⟨b, 2, none⟩ = some v2 ∧ w'.cell? ⟨b, 3, none⟩ = some v3 ∧ w'.cell? ⟨b, 4, none⟩ = some v4 ∧ w'.cell? ⟨b, 5, none⟩ = some v5 := by
  obtain ⟨c0, c1, c2, c3, c4, c5⟩ := h
  exact ⟨(bcell h2 _ _ hb).trans c0, (bcell h2 _ _ hb).trans c1, (bcell h2 _ _ hb).trans c2, (bcell h2 _ _ hb).trans c3, (bcell h2 _ _ hb).trans c4, (bcell h2 _ _ hb).trans c5⟩

theorem arc_keep3 {w w' : World} {row : Option Nat} {b : Nat} {v0 v1 v2 v3 v4 v5 : Value} (h : w.cell? ⟨b, 0, none⟩ = some v0 ∧ w.cell? ⟨b, 1, none⟩ = some v1 ∧ w.cell? ⟨b, 2, none⟩ = some v2 ∧ w.cell? ⟨b, 3, none⟩ = some v3 ∧ w.cell? ⟨b, 4, none⟩ = some v4 ∧ w.cell? ⟨b, 5, none⟩ = some v5) (hb : b < w.heap.size) (h2 : w.grownBy w' row) (hne : some b ≠ row) : w'.cell? ⟨b, 0, none⟩ = some v0 ∧ w'.cell? ⟨b, 1, none⟩ = some v1 ∧ w'.cell? ⟨b, 2, none⟩ = some v2 ∧ w'.cell? ⟨b, 3, none⟩ = some v3 ∧ w'.cell? ⟨b, 4, none⟩ = some v4 ∧ w'.cell? ⟨b, 5, none⟩ = some v5 := by
  obtain ⟨c0, c1, c2, c3, c4, c5⟩ := h
  exact ⟨(h2.cell_far _ hb hne).trans c0, (h2.cell_far _ hb hne).trans c1, (h2.cell_far _ hb hne).trans c2, (h2.cell_far _ hb hne).trans c3, (h2.cell_far _ hb hne).trans c4, (h2.cell_far _ hb hne).trans c5⟩

set_option maxHeartbeats 2000000 in
theorem specMirror_no (g n : Nat) (F0 : Nat → Int) (F1 : Nat → Int) (F2 : Nat → Int) (F3 : Nat → Int) (F4 : Nat → Int) (F5 : Nat → Int)  (w : World) (t1 : TypeId) (hn : n ≤ 1048576) (h1 : w.rowIs g t1 (n * 6) (flat 6 (rowArc F0 F1 F2 F3 F4 F5)))  (e0 : listArc n F0 F1 F2 F3 F4 F5 = false) :
    Calls Try.prog 23 #[.slice (some ⟨g, 0, none⟩) n n] w fun e w' => e = .returned (.tuple #[.slice none 0 0, .int .i64 1]) ∧ Below w.heap.size w w' := by
  have hl1 := h1.lt
  have HR1 := Lib.hid (RdArc.of_row h1)
  have H1 := Lib.hid h1
  clear h1 
  go_enter Try.func23, Try.ntmps23
  go_wp2_with fail
  refine (OkArc_any _ _ F0 F1 F2 F3 F4 F5 _ _ hn H1.out).mono ?_
  rintro e w1 ⟨rfl, hb1⟩
  go_wp2
  go_ret2
  exact ⟨rfl, hb1⟩

set_option maxHeartbeats 4000000 in
theorem specMirror_yes (g n : Nat) (F0 : Nat → Int) (F1 : Nat → Int) (F2 : Nat → Int) (F3 : Nat → Int) (F4 : Nat → Int) (F5 : Nat → Int)  (w : World) (t1 : TypeId) (hn : n ≤ 1048576) (h1 : w.rowIs g t1 (n * 6) (flat 6 (rowArc F0 F1 F2 F3 F4 F5)))  (e0 : listArc n F0 F1 F2 F3 F4 F5 = true) :
    Calls Try.prog 23 #[.slice (some ⟨g, 0, none⟩) n n] w fun e w' => ∃ g1 c1, e = .returned (.tuple #[.slice (some ⟨g1, 0, none⟩) n c1, .int .i64 0]) ∧ w.heap.size ≤ g1 ∧ Part w' g1 43 (c1 * 6) (n * 6) (flat 6 (rowArc (flipEnd n F0) (fromEnd n F1) (flipEnd n F4) (fromEnd n F5) (flipEnd n F2) (fromEnd n F3))) ∧ n * 6 ≤ c1 * 6 ∧ Below w.heap.size w w' := by
  have hl1 := h1.lt
  have HR1 := Lib.hid (RdArc.of_row h1)
  have H1 := Lib.hid h1
  clear h1 
  obtain ⟨i0, hi, hz0, hz1, hz2⟩ := info_parts infoArc
  obtain ⟨hn2, hn16⟩ := listArc_n e0
  go_enter Try.func23, Try.ntmps23
  go_wp2_with fail
  refine (OkArc_any _ _ F0 F1 F2 F3 F4 F5 _ _ hn H1.out).mono ?_
  rintro e w1 ⟨rfl, hb1⟩
  have hB0 : w.heap.size ≤ w1.heap.size := hb1.size
  have hnw : wrap64 ((n : Int) - 1) = (n : Int) - 1 := by unfold wrap64; go_num
  go_wp2
  go_loopw [4, 5] (fun v i wr => ∃ (k j : Nat), k + j = n ∧ i = .int .i64 ((j : Int) - 1) ∧ wr.ownsRow w.heap.size 43 6 v k ((List.range (k * 6)).map (flat 6 (rowArc (flipEnd n F0) (fromEnd n F1) (flipEnd n F4) (fromEnd n F5) (flipEnd n F2) (fromEnd n F3)))) ∧ Below w.heap.size w wr) (fun _ i _ => (intOf i + 1).toNat)
  case atStart => exact ⟨0, n, by omega, by go_num, by simpa using World.ownsRow_lit w1 #[] 0 hb1.size (by decide) rfl, hb1.alloc hb1.size _⟩
  case round =>
    obtain ⟨k, j, hkj, rfl, hown, hbel⟩ := hrel
    cases j with
    | succ j =>
      have e1 : (((j + 1 : Nat) : Int) - 1) = (j : Int) := by omega
      rw [e1]
      clear e1
      have hjn : j < n := by omega
      have hlti : (j : Int) < (n : Int) := by omega
      have hki : (0 : Int) ≤ (j : Int) := by omega
      obtain ⟨c0, c1, c2, c3, c4, c5⟩ := HR1.out j hjn
      rw [← bcell hbel _ _ hl1] at c0 c1 c2 c3 c4 c5
      simp only [Nat.zero_add] at c0 c1 c2 c3 c4 c5
      have HO := Lib.hid hown
      clear hown
      go_wp2
      obtain ⟨W1, hW1⟩ : ∃ W1, W1 = wr.alloc (.cells #[.int .i64 (F0 j), .int .i64 (F1 j), .int .i64 (F2 j), .int .i64 (F3 j), .int .i64 (F4 j), .int .i64 (F5 j)] 43) := ⟨_, rfl⟩
      rw [← hW1]
      have HB1 := Lib.hid (show Below w.heap.size w W1 by rw [hW1]; exact hbel.alloc hbel.size _)
      have HO1 := Lib.hid (show W1.ownsRow w.heap.size 43 6 _ k _ by rw [hW1]; exact HO.out.alloc _)
      obtain ⟨PB, hPB⟩ : ∃ PB, PB = wr.heap.size := ⟨_, rfl⟩
      have hPl : PB < W1.heap.size := by rw [hW1, hPB]; simp
      have HC := Lib.hid (show W1.cell? ⟨PB, 0, none⟩ = some (.int .i64 (F0 j)) ∧ W1.cell? ⟨PB, 1, none⟩ = some (.int .i64 (F1 j)) ∧ W1.cell? ⟨PB, 2, none⟩ = some (.int .i64 (F2 j)) ∧ W1.cell? ⟨PB, 3, none⟩ = some (.int .i64 (F3 j)) ∧ W1.cell? ⟨PB, 4, none⟩ = some (.int .i64 (F4 j)) ∧ W1.cell? ⟨PB, 5, none⟩ = some (.int .i64 (F5 j)) by rw [hW1, hPB]; refine ⟨by go_simp, by go_simp, by go_simp, by go_simp, by go_simp, by go_simp⟩)
      have hne : some PB ≠ (_ : Value).ownBlock := fun h => absurd (HO.out.lt PB h.symm).2 (by omega)
      have hnj : n - 1 - k = j := by omega
      have HX := Lib.hid (show (List.range ((k + 1) * 6)).map (flat 6 (rowArc (flipEnd n F0) (fromEnd n F1) (flipEnd n F4) (fromEnd n F5) (flipEnd n F2) (fromEnd n F3))) = (List.range (k * 6)).map (flat 6 (rowArc (flipEnd n F0) (fromEnd n F1) (flipEnd n F4) (fromEnd n F5) (flipEnd n F2) (fromEnd n F3))) ++ [.int .i64 (neg64 (F0 j)), .int .i64 (F1 j), .int .i64 (neg64 (F4 j)), .int .i64 (F5 j), .int .i64 (neg64 (F2 j)), .int .i64 (F3 j)] by rw [gath, flat_at0 6 _ _ (by omega), flat_at 6 _ _ 1 (by omega), flat_at 6 _ _ 2 (by omega), flat_at 6 _ _ 3 (by omega), flat_at 6 _ _ 4 (by omega), flat_at 6 _ _ 5 (by omega)]; simp only [rowArc, flipEnd, fromEnd, hnj])
      clear hnj
      rw [← hPB]
      clear hW1 c0 c1 c2 c3 c4 c5 HO hPB
      refine wp_region_held_drew (S := fun w' => w'.cell? ⟨PB, 0, none⟩ = some (.int .i64 (F0 j)) ∧ w'.cell? ⟨PB, 1, none⟩ = some (.int .i64 (F1 j)) ∧ w'.cell? ⟨PB, 2, none⟩ = some (.int .i64 (F2 j)) ∧ w'.cell? ⟨PB, 3, none⟩ = some (.int .i64 (F3 j)) ∧ w'.cell? ⟨PB, 4, none⟩ = some (.int .i64 (F4 j)) ∧ w'.cell? ⟨PB, 5, none⟩ = some (.int .i64 (F5 j))) (by kernel_rfl) ?_ (fun hHeld => ?_)
      · exact arc_keep2 HC.out hPl (Below.refl _ _).drew
      have hB : Below W1.heap.size W1 W1.drew := (Below.refl _ _).drew
      refine' takeL (i := 0) (v := _) rfl (by kernel_rfl) (by kernel_rfl) (by kernel_rfl) (fun _ _ _ h => h) (by rfl) ?_ (by assumption) ?_
      rotate_left 1
      · intro w' hSw; (try dsimp only at hSw); go_simp; try with_reducible rfl
      simp only [Act.put, List.setIfInBounds_toArray, List.set_cons_zero, List.set_cons_succ]
      refine' takeL (i := 1) (v := _) rfl (by kernel_rfl) (by kernel_rfl) (by kernel_rfl) (fun _ _ _ h => h) (by rfl) ?_ (by assumption) ?_
      rotate_left 1
      · intro w' hSw; (try dsimp only at hSw); go_simp; try with_reducible rfl
      simp only [Act.put, List.setIfInBounds_toArray, List.set_cons_zero, List.set_cons_succ]
      refine' takeL (i := 2) (v := _) rfl (by kernel_rfl) (by kernel_rfl) (by kernel_rfl) (fun _ _ _ h => h) (by rfl) ?_ (by assumption) ?_
      rotate_left 1
      · intro w' hSw; (try dsimp only at hSw); go_simp; try with_reducible rfl
      simp only [Act.put, List.setIfInBounds_toArray, List.set_cons_zero, List.set_cons_succ]
      refine' takeL (i := 4) (v := _) rfl (by kernel_rfl) (by kernel_rfl) (by kernel_rfl) (fun _ _ _ h => h) (by rfl) ?_ (by assumption) ?_
      rotate_left 1
      · intro w' hSw; (try dsimp only at hSw); go_simp; try with_reducible rfl
      simp only [Act.put, List.setIfInBounds_toArray, List.set_cons_zero, List.set_cons_succ]
      refine' takeL (i := 5) (v := _) rfl (by kernel_rfl) (by kernel_rfl) (by kernel_rfl) (fun _ _ _ h => h) (by rfl) ?_ (by assumption) ?_
      rotate_left 1
      · intro w' hSw; (try dsimp only at hSw); go_simp; try with_reducible rfl
      simp only [Act.put, List.setIfInBounds_toArray, List.set_cons_zero, List.set_cons_succ]
      refine' takeL (i := 7) (v := _) rfl (by kernel_rfl) (by kernel_rfl) (by kernel_rfl) (fun _ _ _ h => h) (by rfl) ?_ (by assumption) ?_
      rotate_left 1
      · intro w' hSw; (try dsimp only at hSw); go_simp; try with_reducible rfl
      simp only [Act.put, List.setIfInBounds_toArray, List.set_cons_zero, List.set_cons_succ]
      refine' takeL (i := 8) (v := _) rfl (by kernel_rfl) (by kernel_rfl) (by kernel_rfl) (fun _ _ _ h => h) (by rfl) ?_ (by assumption) ?_
      rotate_left 1
      · intro w' hSw; (try dsimp only at hSw); go_simp; try with_reducible rfl
      simp only [Act.put, List.setIfInBounds_toArray, List.set_cons_zero, List.set_cons_succ]
      refine wpAnyH_ready (rs := [3]) (by kernel_rfl) (by simp) ?_
      refine consL (i := 3) rfl (fun K hK => ?_) AllReadyH.nil
      go_simp
      refine (l05Flip_any _ _ _).mono ?_
      rintro e wa3 ⟨rfl, hba⟩
      refine hK.out _ _ (arc_keep2 hHeld (Nat.lt_of_lt_of_le hPl hB.size) hba) (fun hHeld2 => ?_)
      replace hB := hB.trans (hba.mono hB.size)
      clear hK K hHeld hba
      have hHeld := hHeld2
      clear hHeld2
      try simp only [Act.put, List.setIfInBounds_toArray, List.set_cons_zero, List.set_cons_succ]
      refine wpAnyH_ready (rs := [6]) (by kernel_rfl) (by simp) ?_
      refine consL (i := 6) rfl (fun K hK => ?_) AllReadyH.nil
      go_simp
      refine (l05Flip_any _ _ _).mono ?_
      rintro e wa6 ⟨rfl, hba⟩
      refine hK.out _ _ (arc_keep2 hHeld (Nat.lt_of_lt_of_le hPl hB.size) hba) (fun hHeld2 => ?_)
      replace hB := hB.trans (hba.mono hB.size)
      clear hK K hHeld hba
      have hHeld := hHeld2
      clear hHeld2
      try simp only [Act.put, List.setIfInBounds_toArray, List.set_cons_zero, List.set_cons_succ]
      refine wpAnyH_ready (rs := [9]) (by kernel_rfl) (by simp) ?_
      refine consL (i := 9) rfl (fun K hK => ?_) AllReadyH.nil
      go_simp
      refine (l05Flip_any _ _ _).mono ?_
      rintro e wa9 ⟨rfl, hba⟩
      refine hK.out _ _ (arc_keep2 hHeld (Nat.lt_of_lt_of_le hPl hB.size) hba) (fun hHeld2 => ?_)
      replace hB := hB.trans (hba.mono hB.size)
      clear hK K hHeld hba
      have hHeld := hHeld2
      clear hHeld2
      try simp only [Act.put, List.setIfInBounds_toArray, List.set_cons_zero, List.set_cons_succ]
      refine' takeL (i := 10) (v := _) rfl (by kernel_rfl) (by kernel_rfl) (by kernel_rfl) (fun _ _ _ h => h) (by rfl) ?_ (by assumption) ?_
      rotate_left 1
      · intro w' hSw; (try dsimp only at hSw); go_simp; try with_reducible rfl
      simp only [Act.put, List.setIfInBounds_toArray, List.set_cons_zero, List.set_cons_succ]
      refine wpAnyH_ready (rs := [11]) (by kernel_rfl) (by simp) ?_
      refine consL (i := 11) rfl (fun K hK => ?_) AllReadyH.nil
      go_simp
      refine hK.out _ _ (arc_keep2 hHeld (Nat.lt_of_lt_of_le hPl hB.size) (below_new _ _)) (fun hHeld2 => ?_)
      clear hK K hHeld
      have hHeld := hHeld2
      clear hHeld2
      try simp only [Act.put, List.setIfInBounds_toArray, List.set_cons_zero, List.set_cons_succ]
      refine wpAnyH_ready (rs := [12]) (by kernel_rfl) (by simp) ?_
      refine consL (i := 12) rfl (fun K hK => ?_) AllReadyH.nil
      rw [if_pos (by kernel_rfl)]
      refine wp_append_own _ (.tmp 22) (.tmp 33) 26 rfl w.heap.size 43 i0 _ 6 48 Try.underlying26 hi hz0 hz1 hz2 rfl (by decide) _ k _ rfl ((own_below HO1.out hB).alloc _) ⟨wa9.heap.size, 0, none⟩ 1 1 [.int .i64 (neg64 (F0 j)), .int .i64 (F1 j), .int .i64 (neg64 (F4 j)), .int .i64 (F5 j), .int .i64 (neg64 (F2 j)), .int .i64 (F3 j)] rfl rfl (six_new _ _ _ _ _ _ _ _) ?c2 ?c3 ?c4 ?c5 ?_
      case c2 => intro u hu; simp at hu; rcases hu with h | h | h | h | h | h <;> (subst h; rfl)
      case c3 => unfold maxLen; omega
      case c4 => omega
      case c5 => have h1 := HB1.out.size; have h2 := hB.size; simp; omega
      intro v2 w2 hown2 hgrow _
      refine hK.out _ _ (arc_keep3 hHeld (by have h2 := hB.size; simp; omega) hgrow hne) (fun hHeld2 => ?_)
      clear hK K hHeld
      have hHeld := hHeld2
      clear hHeld2
      have HB2 := Lib.hid (below_grown (HB1.out.trans (hB.mono HB1.out.size)) (own_below HO1.out hB) hgrow)
      have HO2 := Lib.hid hown2
      clear hown2 hgrow HO1 HB1 hB
      try simp only [Act.put, List.setIfInBounds_toArray, List.set_cons_zero, List.set_cons_succ]
      refine' takeL (i := 13) (v := _) rfl (by kernel_rfl) (by kernel_rfl) (by kernel_rfl) (fun _ _ _ h => h) (by rfl) ?_ (by assumption) ?_
      rotate_left 1
      · intro w' hSw; (try dsimp only at hSw); go_simp; try with_reducible rfl
      simp only [Act.put, List.setIfInBounds_toArray, List.set_cons_zero, List.set_cons_succ]
      refine wpAnyH_done (by kernel_rfl) ?_ _
      clear hHeld
      go_wp2
      go_roundw
      case rel => first | exact ⟨k + 1, j, by omega, by go_num, by rw [HX.out]; exact HO2.out, HB2.out⟩ | ((repeat apply Exists.intro); exact ⟨⟨k + 1, j, by omega, by go_num, by rw [HX.out]; exact HO2.out, HB2.out⟩, rfl⟩)
      case measure => simp [intOf]
    | zero =>
      obtain rfl : k = n := by omega
      have e1 : (((0 : Nat) : Int) - 1) = -1 := rfl
      rw [e1]
      obtain ⟨g1, c1, rfl, hg1⟩ : ∃ g1 c1, (_ : Value) = .slice (some ⟨g1, 0, none⟩) k c1 ∧ w.heap.size ≤ g1 := by
        rcases hown.2 with ⟨_, h0⟩ | ⟨g2, cap, cur, hv, hbg, _⟩
        · exact absurd h0 (by omega)
        · exact ⟨g2, cap, hv, hbg⟩
      have HP := Lib.hid (own_part hown (flat 6 (rowArc (flipEnd k F0) (fromEnd k F1) (flipEnd k F4) (fromEnd k F5) (flipEnd k F2) (fromEnd k F3))) (fun i hi => by simp [hi]))
      clear hown
      go_wp2
      go_ret2
      exact ⟨_, _, rfl, hg1, HP.out.1, HP.out.2, hbel⟩

set_option maxHeartbeats 2000000 in
theorem implMirror_no (g n : Nat) (F0 : Nat → Int) (F1 : Nat → Int) (F2 : Nat → Int) (F3 : Nat → Int) (F4 : Nat → Int) (F5 : Nat → Int)  (w : World) (t1 : TypeId) (hn : n ≤ 1048576) (h1 : w.rowIs g t1 (n * 6) (flat 6 (rowArc F0 F1 F2 F3 F4 F5)))  (e0 : listArc n F0 F1 F2 F3 F4 F5 = false) :
    Calls Try.prog 24 #[.slice (some ⟨g, 0, none⟩) n n] w fun e w' => e = .returned (.tuple #[.slice none 0 0, .int .i64 1]) ∧ Below w.heap.size w w' := by
  have hl1 := h1.lt
  have HR1 := Lib.hid (RdArc.of_row h1)
  have H1 := Lib.hid h1
  clear h1 
  go_enter Try.func24, Try.ntmps24
  go_wp2_with fail
  refine (ValidArcs_any _ _ F0 F1 F2 F3 F4 F5 _ _ hn H1.out).mono ?_
  rintro e w1 ⟨rfl, hb1⟩
  go_wp2
  go_ret2
  exact ⟨rfl, hb1⟩

set_option maxHeartbeats 4000000 in
theorem implMirror_yes (g n : Nat) (F0 : Nat → Int) (F1 : Nat → Int) (F2 : Nat → Int) (F3 : Nat → Int) (F4 : Nat → Int) (F5 : Nat → Int)  (w : World) (t1 : TypeId) (hn : n ≤ 1048576) (h1 : w.rowIs g t1 (n * 6) (flat 6 (rowArc F0 F1 F2 F3 F4 F5)))  (e0 : listArc n F0 F1 F2 F3 F4 F5 = true) :
    Calls Try.prog 24 #[.slice (some ⟨g, 0, none⟩) n n] w fun e w' => ∃ g1 c1, e = .returned (.tuple #[.slice (some ⟨g1, 0, none⟩) n c1, .int .i64 0]) ∧ w.heap.size ≤ g1 ∧ Part w' g1 43 (c1 * 6) (n * 6) (flat 6 (rowArc (flipEnd n F0) (fromEnd n F1) (flipEnd n F4) (fromEnd n F5) (flipEnd n F2) (fromEnd n F3))) ∧ n * 6 ≤ c1 * 6 ∧ Below w.heap.size w w' := by
  have hl1 := h1.lt
  have HR1 := Lib.hid (RdArc.of_row h1)
  have H1 := Lib.hid h1
  clear h1 
  obtain ⟨i0, hi, hz0, hz1, hz2⟩ := info_parts infoArc
  obtain ⟨hn2, hn16⟩ := listArc_n e0
  go_enter Try.func24, Try.ntmps24
  go_wp2_with fail
  refine (ValidArcs_any _ _ F0 F1 F2 F3 F4 F5 _ _ hn H1.out).mono ?_
  rintro e w1 ⟨rfl, hb1⟩
  have hB0 : w.heap.size ≤ w1.heap.size := hb1.size
  have hnw : wrap64 ((n : Int) - 1) = (n : Int) - 1 := by unfold wrap64; go_num
  go_wp2
  go_loopw [4, 5] (fun v i wr => ∃ (k j : Nat), k + j = n ∧ i = .int .i64 ((j : Int) - 1) ∧ wr.ownsRow w.heap.size 43 6 v k ((List.range (k * 6)).map (flat 6 (rowArc (flipEnd n F0) (fromEnd n F1) (flipEnd n F4) (fromEnd n F5) (flipEnd n F2) (fromEnd n F3)))) ∧ Below w.heap.size w wr) (fun _ i _ => (intOf i + 1).toNat)
  case atStart => exact ⟨0, n, by omega, by go_num, by simpa using World.ownsRow_lit w1 #[] 0 hb1.size (by decide) rfl, hb1.alloc hb1.size _⟩
  case round =>
    obtain ⟨k, j, hkj, rfl, hown, hbel⟩ := hrel
    cases j with
    | succ j =>
      have e1 : (((j + 1 : Nat) : Int) - 1) = (j : Int) := by omega
      rw [e1]
      clear e1
      have hjn : j < n := by omega
      have hlti : (j : Int) < (n : Int) := by omega
      have hki : (0 : Int) ≤ (j : Int) := by omega
      obtain ⟨c0, c1, c2, c3, c4, c5⟩ := HR1.out j hjn
      rw [← bcell hbel _ _ hl1] at c0 c1 c2 c3 c4 c5
      simp only [Nat.zero_add] at c0 c1 c2 c3 c4 c5
      have HO := Lib.hid hown
      clear hown
      go_wp2
      obtain ⟨W1, hW1⟩ : ∃ W1, W1 = wr.alloc (.cells #[.int .i64 (F0 j), .int .i64 (F1 j), .int .i64 (F2 j), .int .i64 (F3 j), .int .i64 (F4 j), .int .i64 (F5 j)] 43) := ⟨_, rfl⟩
      rw [← hW1]
      have HB1 := Lib.hid (show Below w.heap.size w W1 by rw [hW1]; exact hbel.alloc hbel.size _)
      have HO1 := Lib.hid (show W1.ownsRow w.heap.size 43 6 _ k _ by rw [hW1]; exact HO.out.alloc _)
      obtain ⟨PB, hPB⟩ : ∃ PB, PB = wr.heap.size := ⟨_, rfl⟩
      have hPl : PB < W1.heap.size := by rw [hW1, hPB]; simp
      have HC := Lib.hid (show W1.cell? ⟨PB, 0, none⟩ = some (.int .i64 (F0 j)) ∧ W1.cell? ⟨PB, 1, none⟩ = some (.int .i64 (F1 j)) ∧ W1.cell? ⟨PB, 2, none⟩ = some (.int .i64 (F2 j)) ∧ W1.cell? ⟨PB, 3, none⟩ = some (.int .i64 (F3 j)) ∧ W1.cell? ⟨PB, 4, none⟩ = some (.int .i64 (F4 j)) ∧ W1.cell? ⟨PB, 5, none⟩ = some (.int .i64 (F5 j)) by rw [hW1, hPB]; refine ⟨by go_simp, by go_simp, by go_simp, by go_simp, by go_simp, by go_simp⟩)
      have hne : some PB ≠ (_ : Value).ownBlock := fun h => absurd (HO.out.lt PB h.symm).2 (by omega)
      have hnj : n - 1 - k = j := by omega
      have HX := Lib.hid (show (List.range ((k + 1) * 6)).map (flat 6 (rowArc (flipEnd n F0) (fromEnd n F1) (flipEnd n F4) (fromEnd n F5) (flipEnd n F2) (fromEnd n F3))) = (List.range (k * 6)).map (flat 6 (rowArc (flipEnd n F0) (fromEnd n F1) (flipEnd n F4) (fromEnd n F5) (flipEnd n F2) (fromEnd n F3))) ++ [.int .i64 (neg64 (F0 j)), .int .i64 (F1 j), .int .i64 (neg64 (F4 j)), .int .i64 (F5 j), .int .i64 (neg64 (F2 j)), .int .i64 (F3 j)] by rw [gath, flat_at0 6 _ _ (by omega), flat_at 6 _ _ 1 (by omega), flat_at 6 _ _ 2 (by omega), flat_at 6 _ _ 3 (by omega), flat_at 6 _ _ 4 (by omega), flat_at 6 _ _ 5 (by omega)]; simp only [rowArc, flipEnd, fromEnd, hnj])
      clear hnj
      rw [← hPB]
      clear hW1 c0 c1 c2 c3 c4 c5 HO hPB
      refine wp_region_held_drew (S := fun w' => w'.cell? ⟨PB, 0, none⟩ = some (.int .i64 (F0 j)) ∧ w'.cell? ⟨PB, 1, none⟩ = some (.int .i64 (F1 j)) ∧ w'.cell? ⟨PB, 2, none⟩ = some (.int .i64 (F2 j)) ∧ w'.cell? ⟨PB, 3, none⟩ = some (.int .i64 (F3 j)) ∧ w'.cell? ⟨PB, 4, none⟩ = some (.int .i64 (F4 j)) ∧ w'.cell? ⟨PB, 5, none⟩ = some (.int .i64 (F5 j))) (by kernel_rfl) ?_ (fun hHeld => ?_)
      · exact arc_keep2 HC.out hPl (Below.refl _ _).drew
      have hB : Below W1.heap.size W1 W1.drew := (Below.refl _ _).drew
      refine' takeL (i := 0) (v := _) rfl (by kernel_rfl) (by kernel_rfl) (by kernel_rfl) (fun _ _ _ h => h) (by rfl) ?_ (by assumption) ?_
      rotate_left 1
      · intro w' hSw; (try dsimp only at hSw); go_simp; try with_reducible rfl
      simp only [Act.put, List.setIfInBounds_toArray, List.set_cons_zero, List.set_cons_succ]
      refine' takeL (i := 1) (v := _) rfl (by kernel_rfl) (by kernel_rfl) (by kernel_rfl) (fun _ _ _ h => h) (by rfl) ?_ (by assumption) ?_
      rotate_left 1
      · intro w' hSw; (try dsimp only at hSw); go_simp; try with_reducible rfl
      simp only [Act.put, List.setIfInBounds_toArray, List.set_cons_zero, List.set_cons_succ]
      refine' takeL (i := 2) (v := _) rfl (by kernel_rfl) (by kernel_rfl) (by kernel_rfl) (fun _ _ _ h => h) (by rfl) ?_ (by assumption) ?_
      rotate_left 1
      · intro w' hSw; (try dsimp only at hSw); go_simp; try with_reducible rfl
      simp only [Act.put, List.setIfInBounds_toArray, List.set_cons_zero, List.set_cons_succ]
      refine' takeL (i := 4) (v := _) rfl (by kernel_rfl) (by kernel_rfl) (by kernel_rfl) (fun _ _ _ h => h) (by rfl) ?_ (by assumption) ?_
      rotate_left 1
      · intro w' hSw; (try dsimp only at hSw); go_simp; try with_reducible rfl
      simp only [Act.put, List.setIfInBounds_toArray, List.set_cons_zero, List.set_cons_succ]
      refine' takeL (i := 5) (v := _) rfl (by kernel_rfl) (by kernel_rfl) (by kernel_rfl) (fun _ _ _ h => h) (by rfl) ?_ (by assumption) ?_
      rotate_left 1
      · intro w' hSw; (try dsimp only at hSw); go_simp; try with_reducible rfl
      simp only [Act.put, List.setIfInBounds_toArray, List.set_cons_zero, List.set_cons_succ]
      refine' takeL (i := 7) (v := _) rfl (by kernel_rfl) (by kernel_rfl) (by kernel_rfl) (fun _ _ _ h => h) (by rfl) ?_ (by assumption) ?_
      rotate_left 1
      · intro w' hSw; (try dsimp only at hSw); go_simp; try with_reducible rfl
      simp only [Act.put, List.setIfInBounds_toArray, List.set_cons_zero, List.set_cons_succ]
      refine' takeL (i := 8) (v := _) rfl (by kernel_rfl) (by kernel_rfl) (by kernel_rfl) (fun _ _ _ h => h) (by rfl) ?_ (by assumption) ?_
      rotate_left 1
      · intro w' hSw; (try dsimp only at hSw); go_simp; try with_reducible rfl
      simp only [Act.put, List.setIfInBounds_toArray, List.set_cons_zero, List.set_cons_succ]
      refine wpAnyH_ready (rs := [3]) (by kernel_rfl) (by simp) ?_
      refine consL (i := 3) rfl (fun K hK => ?_) AllReadyH.nil
      go_simp
      refine (mirrored_any _ _ _).mono ?_
      rintro e wa3 ⟨rfl, hba⟩
      refine hK.out _ _ (arc_keep2 hHeld (Nat.lt_of_lt_of_le hPl hB.size) hba) (fun hHeld2 => ?_)
      replace hB := hB.trans (hba.mono hB.size)
      clear hK K hHeld hba
      have hHeld := hHeld2
      clear hHeld2
      try simp only [Act.put, List.setIfInBounds_toArray, List.set_cons_zero, List.set_cons_succ]
      refine wpAnyH_ready (rs := [6]) (by kernel_rfl) (by simp) ?_
      refine consL (i := 6) rfl (fun K hK => ?_) AllReadyH.nil
      go_simp
      refine (mirrored_any _ _ _).mono ?_
      rintro e wa6 ⟨rfl, hba⟩
      refine hK.out _ _ (arc_keep2 hHeld (Nat.lt_of_lt_of_le hPl hB.size) hba) (fun hHeld2 => ?_)
      replace hB := hB.trans (hba.mono hB.size)
      clear hK K hHeld hba
      have hHeld := hHeld2
      clear hHeld2
      try simp only [Act.put, List.setIfInBounds_toArray, List.set_cons_zero, List.set_cons_succ]
      refine wpAnyH_ready (rs := [9]) (by kernel_rfl) (by simp) ?_
      refine consL (i := 9) rfl (fun K hK => ?_) AllReadyH.nil
      go_simp
      refine (mirrored_any _ _ _).mono ?_
      rintro e wa9 ⟨rfl, hba⟩
      refine hK.out _ _ (arc_keep2 hHeld (Nat.lt_of_lt_of_le hPl hB.size) hba) (fun hHeld2 => ?_)
      replace hB := hB.trans (hba.mono hB.size)
      clear hK K hHeld hba
      have hHeld := hHeld2
      clear hHeld2
      try simp only [Act.put, List.setIfInBounds_toArray, List.set_cons_zero, List.set_cons_succ]
      refine' takeL (i := 10) (v := _) rfl (by kernel_rfl) (by kernel_rfl) (by kernel_rfl) (fun _ _ _ h => h) (by rfl) ?_ (by assumption) ?_
      rotate_left 1
      · intro w' hSw; (try dsimp only at hSw); go_simp; try with_reducible rfl
      simp only [Act.put, List.setIfInBounds_toArray, List.set_cons_zero, List.set_cons_succ]
      refine wpAnyH_ready (rs := [11]) (by kernel_rfl) (by simp) ?_
      refine consL (i := 11) rfl (fun K hK => ?_) AllReadyH.nil
      go_simp
      refine hK.out _ _ (arc_keep2 hHeld (Nat.lt_of_lt_of_le hPl hB.size) (below_new _ _)) (fun hHeld2 => ?_)
      clear hK K hHeld
      have hHeld := hHeld2
      clear hHeld2
      try simp only [Act.put, List.setIfInBounds_toArray, List.set_cons_zero, List.set_cons_succ]
      refine wpAnyH_ready (rs := [12]) (by kernel_rfl) (by simp) ?_
      refine consL (i := 12) rfl (fun K hK => ?_) AllReadyH.nil
      rw [if_pos (by kernel_rfl)]
      refine wp_append_own _ (.tmp 22) (.tmp 33) 26 rfl w.heap.size 43 i0 _ 6 48 Try.underlying26 hi hz0 hz1 hz2 rfl (by decide) _ k _ rfl ((own_below HO1.out hB).alloc _) ⟨wa9.heap.size, 0, none⟩ 1 1 [.int .i64 (neg64 (F0 j)), .int .i64 (F1 j), .int .i64 (neg64 (F4 j)), .int .i64 (F5 j), .int .i64 (neg64 (F2 j)), .int .i64 (F3 j)] rfl rfl (six_new _ _ _ _ _ _ _ _) ?c2 ?c3 ?c4 ?c5 ?_
      case c2 => intro u hu; simp at hu; rcases hu with h | h | h | h | h | h <;> (subst h; rfl)
      case c3 => unfold maxLen; omega
      case c4 => omega
      case c5 => have h1 := HB1.out.size; have h2 := hB.size; simp; omega
      intro v2 w2 hown2 hgrow _
      refine hK.out _ _ (arc_keep3 hHeld (by have h2 := hB.size; simp; omega) hgrow hne) (fun hHeld2 => ?_)
      clear hK K hHeld
      have hHeld := hHeld2
      clear hHeld2
      have HB2 := Lib.hid (below_grown (HB1.out.trans (hB.mono HB1.out.size)) (own_below HO1.out hB) hgrow)
      have HO2 := Lib.hid hown2
      clear hown2 hgrow HO1 HB1 hB
      try simp only [Act.put, List.setIfInBounds_toArray, List.set_cons_zero, List.set_cons_succ]
      refine' takeL (i := 13) (v := _) rfl (by kernel_rfl) (by kernel_rfl) (by kernel_rfl) (fun _ _ _ h => h) (by rfl) ?_ (by assumption) ?_
      rotate_left 1
      · intro w' hSw; (try dsimp only at hSw); go_simp; try with_reducible rfl
      simp only [Act.put, List.setIfInBounds_toArray, List.set_cons_zero, List.set_cons_succ]
      refine wpAnyH_done (by kernel_rfl) ?_ _
      clear hHeld
      go_wp2
      go_roundw
      case rel => first | exact ⟨k + 1, j, by omega, by go_num, by rw [HX.out]; exact HO2.out, HB2.out⟩ | ((repeat apply Exists.intro); exact ⟨⟨k + 1, j, by omega, by go_num, by rw [HX.out]; exact HO2.out, HB2.out⟩, rfl⟩)
      case measure => simp [intOf]
    | zero =>
      obtain rfl : k = n := by omega
      have e1 : (((0 : Nat) : Int) - 1) = -1 := rfl
      rw [e1]
      obtain ⟨g1, c1, rfl, hg1⟩ : ∃ g1 c1, (_ : Value) = .slice (some ⟨g1, 0, none⟩) k c1 ∧ w.heap.size ≤ g1 := by
        rcases hown.2 with ⟨_, h0⟩ | ⟨g2, cap, cur, hv, hbg, _⟩
        · exact absurd h0 (by omega)
        · exact ⟨g2, cap, hv, hbg⟩
      have HP := Lib.hid (own_part hown (flat 6 (rowArc (flipEnd k F0) (fromEnd k F1) (flipEnd k F4) (fromEnd k F5) (flipEnd k F2) (fromEnd k F3))) (fun i hi => by simp [hi]))
      clear hown
      go_wp2
      go_ret2
      exact ⟨_, _, rfl, hg1, HP.out.1, HP.out.2, hbel⟩
end Go.Proofs.Ytnfdodgecbibjaa
