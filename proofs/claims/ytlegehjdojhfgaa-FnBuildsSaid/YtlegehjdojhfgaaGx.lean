/- Goods that are drawn, part 9: small laws on the lists that the law gathers. No statement of the program is proved here. -/
import Derived.Test.YtlegehjdojhfgaaGr
import Derived.Test.YtlegehjdojhfgaaGg
namespace Go.Proofs.Ytlegehjdojhfgaa
open Go.RowKit
set_option linter.unusedVariables false

theorem r8At_i (a : Option Addr) (n c N : Nat) (x : Int) (z : Nat → Int) (w : World) (h : InBytes w a n z) (hm : n ≤ 1048576) (hN : 1 ≤ N) (hN2 : N ≤ 1000) (h0 : 0 ≤ x) (h1 : x ≤ 1000) :
    Calls Try.prog 6 #[.slice a n c, .int .i64 x, .int .i64 (N : Int)] w fun e w' => ∃ v : Nat, v < N ∧ e = .returned (.int .i64 (v : Int)) ∧ w = w' := by
  obtain ⟨k, rfl⟩ : ∃ k : Nat, x = (k : Int) := ⟨x.toNat, by omega⟩
  exact r8At_any a n c k N z w h hm hN hN2 (by omega)

/-- A list that the call gathers, one cell each. -/
def OwnF (w : World) (B : Nat) (e : TypeId) (g m c : Nat) (f : Nat → Value) : Prop := w.ownsRow B e 1 (.slice (some ⟨g, 0, none⟩) m c) m ((List.range m).map f)
section
variable {w w3 : World} {B : Nat} {e : TypeId} {g g2 m c c2 b : Nat} {f : Nat → Value} {o : Obj} {v : Value}
theorem OwnF.lt (h : OwnF w B e g m c f) : B ≤ g ∧ g < w.heap.size := World.ownsRow.lt h g rfl
theorem OwnF.new (h : OwnF w B e g m c f) (o : Obj) : (w.alloc o).ownsRow B e 1 (.slice (some ⟨g, 0, none⟩) m c) m ((List.range m).map f) := World.ownsRow.alloc h o
theorem OwnF.kept (h : OwnF w B e b m c f) (hgrow : (w.alloc o).grownBy w3 (some g)) (hat : some g = some g2 ∨ g2 = w.heap.size + 1) (hne : b ≠ g) : OwnF w3 B e b m c f ∧ b ≠ g2 := by
  refine ⟨(h.new o).kept hgrow (.inr (by simpa [Value.ownBlock] using hne)), ?_⟩
  have hl := h.lt
  rcases hat with hat | hat
  · simp at hat; omega
  · omega
theorem OwnF.snoc (h : w3.ownsRow B e 1 (.slice (some ⟨g2, 0, none⟩) (m + 1) c2) (m + 1) ((List.range m).map f ++ [v])) : OwnF w3 B e g2 (m + 1) c2 (upd f m v) := by
  have he : (List.range (m + 1)).map (upd f m v) = (List.range m).map f ++ [v] := by
    rw [List.range_succ, List.map_append, List.map_singleton, upd_at]
    congr 1
    exact List.map_congr_left fun j hj => upd_old _ _ (List.mem_range.1 hj)
  unfold OwnF
  rw [he]
  exact h
theorem OwnF.fn (h : OwnF w B e g m c f) {f' : Nat → Value} (he : f = f') : OwnF w B e g m c f' := he ▸ h
theorem OwnF.cell (h : OwnF w B e g m c f) {j : Nat} (hj : j < m) : w.cell? ⟨g, j, none⟩ = some (f j) := by
  rw [World.ownsRow.cellAt h j (by omega)]
  simp [hj]
theorem OwnF.none (w : World) (e : TypeId) (f : Nat → Value) (hB : B ≤ w.heap.size) : OwnF (w.alloc (.cells #[] e)) B e w.heap.size 0 0 f := by
  unfold OwnF
  simpa using World.ownsRow_lit (base := B) (size := 1) (e := e) w #[] 0 hB (by decide) rfl
theorem OwnF.alloc (h : OwnF w B e g m c f) (o : Obj) : OwnF (w.alloc o) B e g m c f := h.new o
end

/-- The four lists that the law gathers. -/
structure Four (w : World) (B mi mp kd kc gi ci gp cp gd cd gc cc : Nat) (X I : Nat → Nat) (P D K : Nat → Int) : Prop where
  i : OwnF w B 9 gi mi ci (fun j => .string (nm (X (I j))))
  p : OwnF w B 2 gp mp cp (fun j => .int .i64 (P j))
  d : OwnF w B 2 gd kd cd (fun j => .int .i64 (D j))
  c : OwnF w B 2 gc kc cc (fun j => .int .i64 (K j))
  ip : gi ≠ gp
  id : gi ≠ gd
  ic : gi ≠ gc
  pd : gp ≠ gd
  pc : gp ≠ gc
  dc : gd ≠ gc
section
variable {w w3 : World} {B mi mp kd kc gi ci gp cp gd cd gc cc : Nat} {X I : Nat → Nat} {P D K : Nat → Int} {o : Obj} {g2 c2 : Nat}
theorem Four.pushI (h : Four w B mi mp kd kc gi ci gp cp gd cd gc cc X I P D K) (x : Nat) (hown : w3.ownsRow B 9 1 (.slice (some ⟨g2, 0, none⟩) (mi + 1) c2) (mi + 1) ((List.range mi).map (fun j => .string (nm (X (I j)))) ++ [(.string (nm (X x)))])) (hgrow : (w.alloc o).grownBy w3 (some gi)) (hat : some gi = some g2 ∨ g2 = w.heap.size + 1) :
    Four w3 B (mi + 1) mp kd kc g2 c2 gp cp gd cd gc cc X (upd I mi x) P D K := by
  obtain ⟨kp, np⟩ := h.p.kept hgrow hat (h.ip.symm)
  obtain ⟨kd, nd⟩ := h.d.kept hgrow hat (h.id.symm)
  obtain ⟨kc, nc⟩ := h.c.kept hgrow hat (h.ic.symm)
  exact ⟨(OwnF.snoc hown).fn (by funext j; unfold upd; split <;> rfl), kp, kd, kc, np.symm, nd.symm, nc.symm, h.pd, h.pc, h.dc⟩
theorem Four.pushP (h : Four w B mi mp kd kc gi ci gp cp gd cd gc cc X I P D K) (x : Int) (hown : w3.ownsRow B 2 1 (.slice (some ⟨g2, 0, none⟩) (mp + 1) c2) (mp + 1) ((List.range mp).map (fun j => .int .i64 (P j)) ++ [(.int .i64 x)])) (hgrow : (w.alloc o).grownBy w3 (some gp)) (hat : some gp = some g2 ∨ g2 = w.heap.size + 1) :
    Four w3 B mi (mp + 1) kd kc gi ci g2 c2 gd cd gc cc X I (upd P mp x) D K := by
  obtain ⟨ki, ni⟩ := h.i.kept hgrow hat (h.ip)
  obtain ⟨kd, nd⟩ := h.d.kept hgrow hat (h.pd.symm)
  obtain ⟨kc, nc⟩ := h.c.kept hgrow hat (h.pc.symm)
  exact ⟨ki, (OwnF.snoc hown).fn (by funext j; unfold upd; split <;> rfl), kd, kc, ni, h.id, h.ic, nd.symm, nc.symm, h.dc⟩
theorem Four.pushD (h : Four w B mi mp kd kc gi ci gp cp gd cd gc cc X I P D K) (x : Int) (hown : w3.ownsRow B 2 1 (.slice (some ⟨g2, 0, none⟩) (kd + 1) c2) (kd + 1) ((List.range kd).map (fun j => .int .i64 (D j)) ++ [(.int .i64 x)])) (hgrow : (w.alloc o).grownBy w3 (some gd)) (hat : some gd = some g2 ∨ g2 = w.heap.size + 1) :
    Four w3 B mi mp (kd + 1) kc gi ci gp cp g2 c2 gc cc X I P (upd D kd x) K := by
  obtain ⟨ki, ni⟩ := h.i.kept hgrow hat (h.id)
  obtain ⟨kp, np⟩ := h.p.kept hgrow hat (h.pd)
  obtain ⟨kc, nc⟩ := h.c.kept hgrow hat (h.dc.symm)
  exact ⟨ki, kp, (OwnF.snoc hown).fn (by funext j; unfold upd; split <;> rfl), kc, h.ip, ni, h.ic, np, h.pc, nc.symm⟩
theorem Four.pushC (h : Four w B mi mp kd kc gi ci gp cp gd cd gc cc X I P D K) (x : Int) (hown : w3.ownsRow B 2 1 (.slice (some ⟨g2, 0, none⟩) (kc + 1) c2) (kc + 1) ((List.range kc).map (fun j => .int .i64 (K j)) ++ [(.int .i64 x)])) (hgrow : (w.alloc o).grownBy w3 (some gc)) (hat : some gc = some g2 ∨ g2 = w.heap.size + 1) :
    Four w3 B mi mp kd (kc + 1) gi ci gp cp gd cd g2 c2 X I P D (upd K kc x) := by
  obtain ⟨ki, ni⟩ := h.i.kept hgrow hat (h.ic)
  obtain ⟨kp, np⟩ := h.p.kept hgrow hat (h.pc)
  obtain ⟨kd, nd⟩ := h.d.kept hgrow hat (h.dc)
  exact ⟨ki, kp, kd, (OwnF.snoc hown).fn (by funext j; unfold upd; split <;> rfl), h.ip, h.id, ni, h.pd, np, nd⟩
theorem Four.alloc (h : Four w B mi mp kd kc gi ci gp cp gd cd gc cc X I P D K) (o : Obj) : Four (w.alloc o) B mi mp kd kc gi ci gp cp gd cd gc cc X I P D K :=
  ⟨h.i.alloc o, h.p.alloc o, h.d.alloc o, h.c.alloc o, h.ip, h.id, h.ic, h.pd, h.pc, h.dc⟩
theorem Four.reads (h : Four w B mi mp kd kc gi ci gp cp gd cd gc cc X I P D K) : RdN w gi mi (fun j => X (I j)) ∧ RdI w gp mp P ∧ RdI w gd kd D ∧ RdI w gc kc K ∧ gi < w.heap.size ∧ gp < w.heap.size ∧ gd < w.heap.size ∧ gc < w.heap.size :=
  ⟨fun j hj => h.i.cell hj, fun j hj => h.p.cell hj, fun j hj => h.d.cell hj, fun j hj => h.c.cell hj, h.i.lt.2, h.p.lt.2, h.d.lt.2, h.c.lt.2⟩
theorem below_push {a : World} {g : Nat} {B0 : Nat} (h : Below B0 a w) (hgrow : (w.alloc o).grownBy w3 (some g)) (hB : B0 ≤ a.heap.size) (hg : B0 ≤ g) : Below B0 a w3 :=
  (h.alloc (Nat.le_trans hB h.size) o).grown hgrow (by have := Nat.le_trans hB h.size; simp; omega) (fun k hk => by simp at hk; omega)
end
theorem Four.none (w : World) (B : Nat) (X : Nat → Nat) (hB : B ≤ w.heap.size) :
    Four ((((w.alloc (.cells #[] 9)).alloc (.cells #[] 2)).alloc (.cells #[] 2)).alloc (.cells #[] 2)) B 0 0 0 0 w.heap.size 0 (w.heap.size + 1) 0 (w.heap.size + 1 + 1) 0 (w.heap.size + 1 + 1 + 1) 0 X (fun _ => 0) (fun _ => 0) (fun _ => 0) (fun _ => 0) := by
  have hsz : ∀ (w : World) (o : Obj), (w.alloc o).heap.size = w.heap.size + 1 := fun w o => by simp
  have h1 := OwnF.none w 9 (fun j => .string (nm (X 0))) hB
  have h2 := OwnF.none (w.alloc (.cells #[] 9)) (B := B) 2 (fun j => .int .i64 0) (by simp; omega)
  have h3 := OwnF.none ((w.alloc (.cells #[] 9)).alloc (.cells #[] 2)) (B := B) 2 (fun j => .int .i64 0) (by simp; omega)
  have h4 := OwnF.none (((w.alloc (.cells #[] 9)).alloc (.cells #[] 2)).alloc (.cells #[] 2)) (B := B) 2 (fun j => .int .i64 0) (by simp; omega)
  simp only [hsz] at h2 h3 h4
  exact ⟨((h1.alloc _).alloc _).alloc _, (h2.alloc _).alloc _, h3.alloc _, h4, by omega, by omega, by omega, by omega, by omega, by omega⟩

/-- What the law chose, so far. -/
structure Chosen (n k m : Nat) (I : Nat → Nat) (P D K : Nat → Int) : Prop where
  pk : Picked n m I P
  lt : ∀ j, j < m → I j < k
  le : m ≤ k
  d : ∀ i, i < k → 0 ≤ D i ∧ D i ≤ 100
  c : ∀ i, i < k → 0 ≤ K i ∧ K i ≤ 100
theorem Chosen.none (n : Nat) (I : Nat → Nat) (P D K : Nat → Int) : Chosen n 0 0 I P D K := ⟨⟨fun j hj => by omega, fun i j hij hj => by omega, fun j hj => by omega⟩, fun j hj => by omega, by omega, fun j hj => by omega, fun j hj => by omega⟩
theorem upd_b {D : Nat → Int} {k v : Nat} (h : ∀ i, i < k → 0 ≤ D i ∧ D i ≤ 100) (hv : v ≤ 100) : ∀ i, i < k + 1 → 0 ≤ upd D k (v : Int) i ∧ upd D k (v : Int) i ≤ 100 := fun i hi => by
  by_cases e : i = k
  · rw [e, upd_at]; omega
  · rw [upd_old _ _ (by omega)]; exact h i (by omega)
theorem Chosen.leave {n k m : Nat} {I : Nat → Nat} {P D K : Nat → Int} (h : Chosen n k m I P D K) {v2 v3 : Nat} (h2 : v2 < 7) (h3 : v3 < 60) : Chosen n (k + 1) m I P (upd D k (v2 : Int)) (upd K k (v3 : Int)) :=
  ⟨h.pk, fun j hj => by have := h.lt j hj; omega, by have := h.le; omega, upd_b h.d (by omega), upd_b h.c (by omega)⟩
theorem Chosen.take {n k m : Nat} {I : Nat → Nat} {P D K : Nat → Int} (h : Chosen n k m I P D K) (hk : k < n) {v1 v2 v3 : Nat} (h1 : v1 < 6) (h2 : v2 < 7) (h3 : v3 < 60) : Chosen n (k + 1) (m + 1) (upd I m k) (upd P m (1 + (v1 : Int))) (upd D k (v2 : Int)) (upd K k (v3 : Int)) := by
  refine ⟨⟨fun j hj => ?_, fun i j hij hj => ?_, fun j hj => ?_⟩, fun j hj => ?_, by have := h.le; omega, upd_b h.d (by omega), upd_b h.c (by omega)⟩
  · by_cases e : j = m
    · rw [e, upd_at]; exact hk
    · rw [upd_old _ _ (by omega)]; exact h.pk.lt j (by omega)
  · by_cases e : j = m
    · rw [e, upd_at, upd_old _ _ (by omega)]; exact h.lt i (by omega)
    · rw [upd_old _ _ (by omega), upd_old _ _ (by omega)]; exact h.pk.up i j hij (by omega)
  · by_cases e : j = m
    · rw [e, upd_at]; omega
    · rw [upd_old _ _ (by omega)]; exact h.pk.pc j (by omega)
  · by_cases e : j = m
    · rw [e, upd_at]; omega
    · rw [upd_old _ _ (by omega)]; have := h.lt j (by omega); omega

/-- A stop was seen, or none is due so far. -/
def Stop (b : Bool) (q : Nat) (v : Int) (I : Nat → Nat) (P C : Nat → Int) : Prop := b = true ∨ ∀ j, j < q → (v + 1) * P j ≤ C (I j)
def Stop2 (b : Bool) (q r : Nat) (v : Int) (I : Nat → Nat) (P C : Nat → Int) : Prop := b = true ∨ ((∀ j, j < q → (v + 1) * P j ≤ C (I j)) ∧ (I q < r → (v + 1) * P q ≤ C (I q)))
section
variable {b : Bool} {n m q r : Nat} {v : Int} {I : Nat → Nat} {P C : Nat → Int}
theorem Stop.start (h : Stop b q v I P C) : Stop2 b q 0 v I P C := h.imp id fun h => ⟨h, fun h0 => by omega⟩
theorem Stop2.done (h : Stop2 b q n v I P C) (hI : I q < n) : Stop b (q + 1) v I P C := h.imp id fun h j hj => by
  by_cases e : j = q
  · rw [e]; exact h.2 hI
  · exact h.1 j (by omega)
theorem Stop2.skip (h : Stop2 b q r v I P C) (hr : r ≠ I q) : Stop2 b q (r + 1) v I P C := h.imp id fun h => ⟨h.1, fun h2 => h.2 (by omega)⟩
theorem Stop2.yes : Stop2 true q r v I P C := .inl rfl
theorem Stop2.no (h : Stop2 b q (I q) v I P C) (hr : (v + 1) * P q ≤ C (I q)) : Stop2 b q (I q + 1) v I P C := h.imp id fun h => ⟨h.1, fun _ => hr⟩
theorem Stop.seen (h : Stop b m v I P C) (hM : Most m I P C v) : b = true := by
  rcases h with h | h
  · exact h
  · obtain ⟨j, hj, hc⟩ := hM.hit
    have := h j hj
    omega
end
theorem pieces_b {x p : Int} (h0 : 0 ≤ x) (h1 : x ≤ 100) (p0 : 0 ≤ p) (p1 : p ≤ 100) : 0 ≤ x * p ∧ x * p ≤ 10000 := by
  have a := Int.mul_le_mul_of_nonneg_right h1 p0
  exact ⟨Int.mul_nonneg h0 p0, by omega⟩
theorem nm_apart {n : Nat} {X : Nat → Nat} {C L Q : Nat → Int} (h : Goods n X C L Q) {r s : Nat} (hr : r < n) (hs : s < n) (hne : r ≠ s) : ((nm (X r)).toList == (nm (X s)).toList) = false := by
  rw [eq_nm (h.x5 r hr) (h.x5 s hs)]
  rcases Nat.lt_or_gt_of_ne hne with e | e
  · have := h.up r s e hs
    exact decide_eq_false (by omega)
  · have := h.up s r e hr
    exact decide_eq_false (by omega)
end Go.Proofs.Ytlegehjdojhfgaa
