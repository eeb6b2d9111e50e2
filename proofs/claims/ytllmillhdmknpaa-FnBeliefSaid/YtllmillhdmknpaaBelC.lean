/- The contracts of a vote and of the value of a belief. -/
import Derived.Test.YtllmillhdmknpaaSmall
import Derived.Test.YtllmillhdmknpaaMore
import Derived.Test.YtllmillhdmknpaaBelN
import Derived.Deep.LoopGhost
namespace Go.Proofs.Ytllmillhdmknpaa
open Go.RowKit
set_option linter.unusedVariables false

/-- The two cells of a belief. -/
def belRow (y n : Nat) (j : Nat) : Value := match j with | 0 => .int .i64 (y : Int) | _ => .int .i64 (n : Int)

theorem bel_at {w : World} {g y n : Nat} {t : TypeId} (h : w.rowIs g t 2 (belRow y n)) : w.cell? ⟨g, 0, none⟩ = some (.int .i64 (y : Int)) ∧ w.cell? ⟨g, 1, none⟩ = some (.int .i64 (n : Int)) := ⟨h.cell (i := 0) (by omega), h.cell (i := 1) (by omega)⟩

theorem bel_set {w : World} {g y n : Nat} {t : TypeId} (h : w.rowIs g t 2 (belRow y n)) (a b : Nat) {A B : Int} (ha : A = (a : Int)) (hb : B = (b : Int)) : ((w.setCell ⟨g, 0, none⟩ (.int .i64 A)).setCell ⟨g, 1, none⟩ (.int .i64 B)).rowIs g t 2 (belRow a b) :=
  ((h.set 0 _).set 1 _).congr (fun j hj => by
    match j, hj with
    | 0, _ => subst ha; rfl
    | 1, _ => subst hb; rfl)

theorem bel_new (w : World) (t : TypeId) (a b : Nat) {A B : Int} (ha : A = (a : Int)) (hb : B = (b : Int)) : (w.alloc (.cells #[.int .i64 A, .int .i64 B] t)).rowIs w.heap.size t 2 (belRow a b) :=
  World.rowIs_alloc w #[.int .i64 A, .int .i64 B] t _ (fun j hj => by
    match j, hj with
    | 0, _ => subst ha; rfl
    | 1, _ => subst hb; rfl)

theorem grown_set1 (w : World) (g j : Nat) (v : Value) : w.grownBy (w.setCell ⟨g, j, none⟩ v) (some g) :=
  ⟨rfl, rfl, rfl, by simp [World.setCell], fun k hk hne => by
    have : g ≠ k := fun e => hne (by rw [e])
    simp [World.setCell, Array.getElem?_modify, this]⟩

theorem grown_trans {w a b : World} {g : Nat} (h1 : w.grownBy a (some g)) (h2 : a.grownBy b (some g)) : w.grownBy b (some g) :=
  ⟨h2.os.trans h1.os, h2.tape.trans h1.tape, h2.output.trans h1.output, Nat.le_trans h1.size h2.size, fun k hk hne => (h2.block k (Nat.lt_of_lt_of_le hk h1.size) hne).trans (h1.block k hk hne)⟩

theorem cast_mul {a b c : Nat} (h : a * b ≤ c) : 0 ≤ (a : Int) * (b : Int) ∧ (a : Int) * (b : Int) ≤ (c : Int) := by
  have e : (a : Int) * (b : Int) = ((a * b : Nat) : Int) := (Int.natCast_mul a b).symm
  rw [e]; omega

set_option maxHeartbeats 4000000 in
theorem vote_any (g y n s : Nat) (yes : Bool) (w : World) (hr : w.rowIs g 109 2 (belRow y n)) (hy : y ≤ 1000000000000) (hn : n ≤ 1000000000000) (hs : s ≤ 1000) :
    Calls Try.prog 81 #[.pointer (some ⟨g, 0, none⟩), .int .i64 (s : Int), .bool yes] w fun e w' => e = .returned (.tuple #[]) ∧ w'.rowIs g 109 2 (belRow (vt (y, n) (sh yes s)).1 (vt (y, n) (sh yes s)).2) ∧ w.grownBy w' (some g) := by
  obtain ⟨t, ht⟩ : ∃ t, 1000 - s = t := ⟨_, rfl⟩
  have e1 : (1000 : Int) - (s : Int) = (t : Int) := by omega
  have e2 : (1000 : Int) - (t : Int) = (s : Int) := by omega
  have hts : t ≤ 1000 := by omega
  have hst : 1000 - t = s := by omega
  have p1 := cast_mul (mul_bd hy hs)
  have p2 := cast_mul (mul_bd hn hs)
  have p3 := cast_mul (mul_bd hy hts)
  have p4 := cast_mul (mul_bd hn hts)
  obtain ⟨p1, q1⟩ := p1
  obtain ⟨p2, q2⟩ := p2
  obtain ⟨p3, q3⟩ := p3
  obtain ⟨p4, q4⟩ := p4
  obtain ⟨c0, c1⟩ := bel_at hr
  have f0 := hr.frozen 0
  have f1 := hr.frozen 1
  have hl := hr.lt
  have HR := Lib.hid hr
  clear hr
  cases yes with
  | true =>
    have HV := Lib.hid (show vt (y, n) (sh true s) = nrm 20 (y * s) (n * t) by show nrm 20 _ _ = _; show nrm 20 (y * s) (n * (1000 - s)) = _; rw [ht])
    have m1 : y * s ≤ 1000000000000000 := mul_bd hy (by omega)
    have m2 : n * t ≤ 1000000000000000 := mul_bd hn (by omega)
    have HM := Lib.hid (And.intro m1 m2)
    have HT := Lib.hid (And.intro ht hst)
    clear m1 m2 ht hst
    go_enter Try.func81, Try.ntmps81
    go_wp2
    go_loopg [27] 20 (fun f p wr => ∃ (u v : Nat), wr.rowIs g 109 2 (belRow u v) ∧ nrm f u v = nrm 20 (y * s) (n * t) ∧ u ≤ 1000000000000 * 10 ^ f ∧ v ≤ 1000000000000 * 10 ^ f ∧ u ≤ 1000000000000000 ∧ v ≤ 1000000000000000 ∧ w.grownBy wr (some g))
    case atStart => exact ⟨y * s, n * t, bel_set HR.out _ _ (Int.natCast_mul _ _).symm (Int.natCast_mul _ _).symm, rfl, big20 (by have := HM.out.1; omega), big20 (by have := HM.out.2; omega), HM.out.1, HM.out.2, grown_trans (grown_set1 _ _ _ _) (grown_set1 _ _ _ _)⟩
    case round =>
      obtain ⟨u, v, hrow, hnr, hu, hv, hu2, hv2, hg⟩ := hrel
      obtain ⟨d0, d1⟩ := bel_at hrow
      have k0 := hrow.frozen 0
      have k1 := hrow.frozen 1
      have HW := Lib.hid hrow
      have HN := Lib.hid hnr
      have HU := Lib.hid (And.intro hu hv)
      have HG := Lib.hid hg
      clear hrow hnr hu hv hg c0 c1 f0 f1
      by_cases hb : 1000000000000 < u ∨ 1000000000000 < v
      · have hgk : ∃ f, gk = f + 1 := by
          cases gk with
          | zero => have := HU.out; simp at this; omega
          | succ f => exact ⟨f, rfl⟩
        obtain ⟨f, rfl⟩ := hgk
        have HN2 := Lib.hid ((nrm_big hb).symm.trans HN.out)
        have HU2 := Lib.hid (And.intro (pow_down HU.out.1) (pow_down HU.out.2))
        clear HN HU
        rcases (show (1000000000000 : Int) < (u : Int) ∨ (decide ((1000000000000 : Int) < (u : Int)) = false ∧ (1000000000000 : Int) < (v : Int)) from by by_cases h : 1000000000000 < u; exact .inl (by omega); exact .inr ⟨by simp; omega, by omega⟩) with h1 | ⟨h1, h2⟩
        all_goals
          clear hb
          go_wp2
          go_roundg f
          case measure => omega
          case rel => exact ⟨u / 10, v / 10, bel_set HW.out _ _ (by omega) (by omega), HN2.out, HU2.out.1, HU2.out.2, by omega, by omega, grown_trans (grown_trans HG.out (grown_set1 _ _ _ _)) (grown_set1 _ _ _ _)⟩
      · have h1 : decide ((1000000000000 : Int) < (u : Int)) = false := by simp; omega
        have h2 : decide ((1000000000000 : Int) < (v : Int)) = false := by simp; omega
        have HX := Lib.hid (show nrm 20 (y * s) (n * t) = (u, v) by rw [← HN.out]; exact nrm_small (by omega) (by omega))
        clear hb
        go_wp2
        go_end0
        exact ⟨rfl, by rw [HV.out, HX.out]; exact HW.out, HG.out⟩
  | false =>
    have HV := Lib.hid (show vt (y, n) (sh false s) = nrm 20 (y * t) (n * s) by show nrm 20 _ _ = _; show nrm 20 (y * (1000 - s)) (n * (1000 - (1000 - s))) = _; rw [ht, hst])
    have m1 : y * t ≤ 1000000000000000 := mul_bd hy (by omega)
    have m2 : n * s ≤ 1000000000000000 := mul_bd hn (by omega)
    have HM := Lib.hid (And.intro m1 m2)
    have HT := Lib.hid (And.intro ht hst)
    clear m1 m2 ht hst
    go_enter Try.func81, Try.ntmps81
    go_wp2
    go_loopg [27] 20 (fun f p wr => ∃ (u v : Nat), wr.rowIs g 109 2 (belRow u v) ∧ nrm f u v = nrm 20 (y * t) (n * s) ∧ u ≤ 1000000000000 * 10 ^ f ∧ v ≤ 1000000000000 * 10 ^ f ∧ u ≤ 1000000000000000 ∧ v ≤ 1000000000000000 ∧ w.grownBy wr (some g))
    case atStart => exact ⟨y * t, n * s, bel_set HR.out _ _ (Int.natCast_mul _ _).symm (Int.natCast_mul _ _).symm, rfl, big20 (by have := HM.out.1; omega), big20 (by have := HM.out.2; omega), HM.out.1, HM.out.2, grown_trans (grown_set1 _ _ _ _) (grown_set1 _ _ _ _)⟩
    case round =>
      obtain ⟨u, v, hrow, hnr, hu, hv, hu2, hv2, hg⟩ := hrel
      obtain ⟨d0, d1⟩ := bel_at hrow
      have k0 := hrow.frozen 0
      have k1 := hrow.frozen 1
      have HW := Lib.hid hrow
      have HN := Lib.hid hnr
      have HU := Lib.hid (And.intro hu hv)
      have HG := Lib.hid hg
      clear hrow hnr hu hv hg c0 c1 f0 f1
      by_cases hb : 1000000000000 < u ∨ 1000000000000 < v
      · have hgk : ∃ f, gk = f + 1 := by
          cases gk with
          | zero => have := HU.out; simp at this; omega
          | succ f => exact ⟨f, rfl⟩
        obtain ⟨f, rfl⟩ := hgk
        have HN2 := Lib.hid ((nrm_big hb).symm.trans HN.out)
        have HU2 := Lib.hid (And.intro (pow_down HU.out.1) (pow_down HU.out.2))
        clear HN HU
        rcases (show (1000000000000 : Int) < (u : Int) ∨ (decide ((1000000000000 : Int) < (u : Int)) = false ∧ (1000000000000 : Int) < (v : Int)) from by by_cases h : 1000000000000 < u; exact .inl (by omega); exact .inr ⟨by simp; omega, by omega⟩) with h1 | ⟨h1, h2⟩
        all_goals
          clear hb
          go_wp2
          go_roundg f
          case measure => omega
          case rel => exact ⟨u / 10, v / 10, bel_set HW.out _ _ (by omega) (by omega), HN2.out, HU2.out.1, HU2.out.2, by omega, by omega, grown_trans (grown_trans HG.out (grown_set1 _ _ _ _)) (grown_set1 _ _ _ _)⟩
      · have h1 : decide ((1000000000000 : Int) < (u : Int)) = false := by simp; omega
        have h2 : decide ((1000000000000 : Int) < (v : Int)) = false := by simp; omega
        have HX := Lib.hid (show nrm 20 (y * t) (n * s) = (u, v) by rw [← HN.out]; exact nrm_small (by omega) (by omega))
        clear hb
        go_wp2
        go_end0
        exact ⟨rfl, by rw [HV.out, HX.out]; exact HW.out, HG.out⟩

theorem cast_val (y n : Nat) : ((valN (y, n) : Nat) : Int) = 1000 * (y : Int) / ((y : Int) + (n : Int)) := by
  show ((1000 * y / (y + n) : Nat) : Int) = _
  simp

set_option maxHeartbeats 1000000 in
theorem value_any (g y n : Nat) (w : World) (hr : w.rowIs g 109 2 (belRow y n)) (hy : y ≤ 1000000000000) (hn : n ≤ 1000000000000) (h0 : y + n ≠ 0) :
    Calls Try.prog 82 #[.pointer (some ⟨g, 0, none⟩)] w fun e w' => e = .returned (.tuple #[.int .i64 ((valN (y, n) : Nat) : Int), .bool true]) ∧ Below w.heap.size w w' := by
  obtain ⟨c0, c1⟩ := bel_at hr
  clear hr
  have HC := Lib.hid (cast_val y n)
  have h1 : ((y : Int) + (n : Int) == 0) = false := by rw [beq_eq_false_iff_ne]; omega
  have h2 : (0 : Int) < (y : Int) + (n : Int) := by omega
  have h3 : 0 ≤ 1000 * (y : Int) / ((y : Int) + (n : Int)) := Int.ediv_nonneg (by omega) (by omega)
  have h4 : 1000 * (y : Int) / ((y : Int) + (n : Int)) ≤ 1000 * (y : Int) := Int.ediv_le_self _ (by omega)
  clear h0
  go_enter Try.func82, Try.ntmps82
  go_wp2
  go_big_quiet (fail)
  go_wp2
  go_big_quiet (fail)
  go_wp2
  go_ret2
  exact ⟨by rw [HC.out]; rfl, below_drewN (below_drewN (Below.refl _ _) _) _⟩
end Go.Proofs.Ytllmillhdmknpaa
