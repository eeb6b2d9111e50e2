/- Bytes that choose numbers; small laws for the law on beliefs. -/
import Derived.Test.YtllmillhdmknpaaBelO
import Derived.Test.YtllmillhdmknpaaOpen
import Derived.Test.YtllmillhdmknpaaOwn
namespace Go.Proofs.Ytllmillhdmknpaa
open Go.ChangeShapes Go.WideShapes Go.ChangeAt Go.RowKit Go.Deep
set_option linter.unusedVariables false

attribute [local go_sem high] run_max2

/-- A slice of bytes that came in. -/
def InBytes (w : World) (a : Option Addr) (n : Nat) (z : Nat → Int) : Prop := (n = 0 ∨ ∃ b off, a = some ⟨b, off, none⟩ ∧ b < w.heap.size ∧ ∀ i, i < n → w.cell? ⟨b, off + i, none⟩ = some (.int .u8 (z i)) ∧ 0 ≤ z i ∧ z i ≤ 255) ∧ n ≤ maxLen

theorem InBytes.below {w w' : World} {a : Option Addr} {n : Nat} {z : Nat → Int} (h : InBytes w a n z) (hb : Below w.heap.size w w') : InBytes w' a n z := by
  obtain ⟨h1, h2⟩ := h
  refine ⟨?_, h2⟩
  rcases h1 with h1 | ⟨b, off, rfl, hbl, hr⟩
  · exact .inl h1
  · exact .inr ⟨b, off, rfl, Nat.lt_of_lt_of_le hbl hb.size, fun i hi => ⟨(bcell hb _ _ hbl).trans (hr i hi).1, (hr i hi).2⟩⟩

theorem inBytes_of {H : Type} {enc : TypeId × Value → H} {w : World} {base : Nat} {spare : Nat → Bool} {held : Bool} {fuel n c : Nat} {a : Option Addr} {x : DataW H × List MemPlace}
    (h : DataW.trod enc Try.prog w base spare held fuel 34 [.slice a n c] = some x) : ∃ z, InBytes w a n z := by
  rcases open_ints Try.underlying34 Try.underlying5 (by kernel_rfl) h with ⟨hcs, _⟩ | ⟨ad, l, c2, zs, hcs, _, hl, hm, hz, _, hcell, hwz⟩
  · simp at hcs
    obtain ⟨rfl, rfl, rfl⟩ := hcs
    exact ⟨fun _ => 0, .inl rfl, by unfold maxLen; omega⟩
  · simp at hcs
    obtain ⟨rfl, rfl, rfl⟩ := hcs
    have hlen : ∀ i, i < n → i < zs.length := fun i hi => by have := hz; split at this <;> omega
    by_cases hn : n = 0
    · exact ⟨fun _ => 0, .inl hn, by unfold maxLen at *; omega⟩
    obtain ⟨b, off, spot⟩ := ad
    have h0 := hcell 0 (hlen 0 (by omega))
    have hspot : spot = none := by simpa [Addr.add] using World.cell?_spot h0
    subst hspot
    have hadd : ∀ q, (Addr.add ⟨b, off, none⟩ q : Addr) = ⟨b, off + q, none⟩ := by
      intro q; unfold Addr.add; split
      · rename_i h0; rw [h0]; rfl
      · rfl
    refine ⟨fun i => zs.getD i 0, .inr ⟨b, off, rfl, lt_of_cell (by rw [hadd] at h0; exact h0), fun i hi => ?_⟩, by unfold maxLen at *; omega⟩
    have h1 := hcell i (hlen i hi)
    rw [hadd] at h1
    have hm2 : zs.getD i 0 ∈ zs := by
      rw [List.getD_eq_getElem?_getD, List.getElem?_eq_getElem (hlen i hi)]
      exact List.getElem_mem _
    have hw := hwz _ hm2
    have hb : (0 : Int) ≤ zs.getD i 0 ∧ zs.getD i 0 ≤ 255 := by
      have e1 : IntKind.u8.min = 0 := rfl
      have e2 : IntKind.u8.max = 255 := rfl
      have h2 : IntKind.u8.min ≤ zs.getD i 0 ∧ zs.getD i 0 ≤ IntKind.u8.max := by simpa [Lit.wf] using hw
      rw [e1, e2] at h2
      exact h2
    exact ⟨h1, hb⟩

set_option maxHeartbeats 1000000 in
theorem r8At_any (a : Option Addr) (n c k N : Nat) (z : Nat → Int) (w : World) (h : InBytes w a n z) (hm : n ≤ 1048576) (hN : 1 ≤ N) (hN2 : N ≤ 1000) (hk : k ≤ 1000) :
    Calls Try.prog 22 #[.slice a n c, .int .i64 (k : Int), .int .i64 (N : Int)] w fun e w' => ∃ v : Nat, v < N ∧ e = .returned (.int .i64 (v : Int)) ∧ w = w' := by
  obtain ⟨h1, _⟩ := h
  by_cases hn1 : (N : Int) ≤ 1
  · go_enter Try.func22, Try.ntmps22
    go_wp2
    go_ret
    exact ⟨0, by omega, rfl, rfl⟩
  have hn1d : decide ((N : Int) ≤ 1) = false := by simp; omega
  have hn2 : (1 : Int) < (N : Int) := by omega
  by_cases hkn : n ≤ k
  · have hkn2 : (n : Int) ≤ (k : Int) := by omega
    clear h1
    go_enter Try.func22, Try.ntmps22
    go_wp2
    go_ret
    exact ⟨0, by omega, rfl, rfl⟩
  have hki : (k : Int) < (n : Int) := by omega
  have hkd : decide (n ≤ k) = false := by simp; omega
  have hk0 : (0 : Int) ≤ (k : Int) := by omega
  rcases h1 with rfl | ⟨b, off, rfl, hbl, hr⟩
  · omega
  obtain ⟨c0, z0, z1⟩ := hr k (by omega)
  obtain ⟨q, hq⟩ : ∃ q : Nat, z k = (q : Int) := ⟨(z k).toNat, by omega⟩
  rw [hq] at c0 z0 z1
  clear hr hq hkn hn1
  have HM := Lib.hid (show ((q % N : Nat) : Int) = (q : Int) % (N : Int) from Int.natCast_emod q N)
  have m0 : (0 : Int) ≤ (q : Int) % (N : Int) := Int.emod_nonneg _ (by omega)
  have m1 : (q : Int) % (N : Int) < (N : Int) := Int.emod_lt_of_pos _ (by omega)
  go_enter Try.func22, Try.ntmps22
  go_wp2
  go_ret
  exact ⟨q % N, Nat.mod_lt _ (by omega), by rw [HM.out]; rfl, rfl⟩

/-- The check of HitsOf: all that the law compares. -/
def hitsB (a r : Nat) : Bool := decide (0 < rdiv (1000 * ((r : Int) + 1)) ((a : Int) + 2)) && (decide (rdiv (1000 * ((r : Int) + 1)) ((a : Int) + 2) < 1000) && (decide (rdiv (1000 * ((r : Int) + 1)) ((a : Int) + 2) + rdiv (1000 * (((a - r : Nat) : Int) + 1)) ((a : Int) + 2) - 1000 ≤ 1) && decide (-1 ≤ rdiv (1000 * ((r : Int) + 1)) ((a : Int) + 2) + rdiv (1000 * (((a - r : Nat) : Int) + 1)) ((a : Int) + 2) - 1000)))
theorem hits_all : (List.range 60).all (fun a => (List.range (a + 1)).all fun r => hitsB a r) = true := by decide +kernel
theorem hits_at {a r : Nat} (ha : a < 60) (hr : r ≤ a) : hitsB a r = true := by
  have h := hits_all
  rw [List.all_eq_true] at h
  have h2 := h a (by simpa using ha)
  rw [List.all_eq_true] at h2
  exact h2 r (by simp; omega)

theorem lit1 (w : World) (t1 t2 : TypeId) (a : Nat) (b : Nat → Bool) {u : Bool} (hb : b 0 = u) : (∀ i, i < 1 → ((w.alloc (.cells #[.int .i64 (a : Int)] t1)).alloc (.cells #[.bool u] t2)).cell? ⟨w.heap.size, i, none⟩ = some (.int .i64 (((fun _ : Nat => a) i : Nat) : Int))) ∧ (∀ i, i < 1 → ((w.alloc (.cells #[.int .i64 (a : Int)] t1)).alloc (.cells #[.bool u] t2)).cell? ⟨w.heap.size + 1, i, none⟩ = some (.bool (b i))) := by
  refine ⟨fun i hi => ?_, fun i hi => ?_⟩
  · obtain rfl : i = 0 := by omega
    simp
  · obtain rfl : i = 0 := by omega
    simp [hb]

theorem lit2 (w : World) (t1 t2 : TypeId) (a : Nat) (b : Nat → Bool) {u v : Bool} (hb : b 0 = u) (hb1 : b 1 = v) : (∀ i, i < 2 → ((w.alloc (.cells #[.int .i64 (a : Int), .int .i64 (a : Int)] t1)).alloc (.cells #[.bool u, .bool v] t2)).cell? ⟨w.heap.size, i, none⟩ = some (.int .i64 (((fun _ : Nat => a) i : Nat) : Int))) ∧ (∀ i, i < 2 → ((w.alloc (.cells #[.int .i64 (a : Int), .int .i64 (a : Int)] t1)).alloc (.cells #[.bool u, .bool v] t2)).cell? ⟨w.heap.size + 1, i, none⟩ = some (.bool (b i))) := by
  refine ⟨fun i hi => ?_, fun i hi => ?_⟩
  · obtain rfl | rfl : i = 0 ∨ i = 1 := by omega
    all_goals simp
  · obtain rfl | rfl : i = 0 ∨ i = 1 := by omega
    all_goals simp [hb, hb1]

theorem first_cases {p : Nat → Bool} : ∀ {n : Nat} {v1 v2 : Int}, firstP p n = (v1, v2) → (v2 = 0 ∧ ∃ k : Nat, k < n ∧ v1 = (k : Int)) ∨ (v1 = 0 ∧ v2 = 3)
  | 0, v1, v2, h => by simp [firstP] at h; exact .inr ⟨h.1.symm, h.2.symm⟩
  | n + 1, v1, v2, h => by
    by_cases e : (firstP p n).2 = 0
    · have h2 : firstP p (n + 1) = firstP p n := by show (if _ then _ else _) = _; rw [if_pos e]
      rw [h2] at h
      rcases first_cases h with ⟨h3, k, hk, h4⟩ | h3
      · exact .inl ⟨h3, k, by omega, h4⟩
      · exact .inr h3
    · by_cases e2 : p n = true
      · have h2 : firstP p (n + 1) = ((n : Int), 0) := by show (if _ then _ else (if _ then _ else _)) = _; rw [if_neg e, if_pos e2]
        rw [h2] at h
        simp at h
        exact .inl ⟨h.2.symm, n, by omega, h.1.symm⟩
      · have h2 : firstP p (n + 1) = (0, 3) := by show (if _ then _ else (if _ then _ else _)) = _; rw [if_neg e, if_neg e2]
        rw [h2] at h
        simp at h
        exact .inr ⟨h.1.symm, h.2.symm⟩

/-- The first number of votes that suffices, or -1. -/
def rch (p : Nat → Bool) (m : Nat) : Int := if (firstP p (m + 1)).2 = 0 then (firstP p (m + 1)).1 else -1

theorem rch_hit {p : Nat → Bool} {m k : Nat} (h : firstP p (m + 1) = ((k : Int), 0)) : rch p m = (k : Int) := by unfold rch; rw [h]; rfl
theorem rch_none {p : Nat → Bool} {m : Nat} (h : firstP p (m + 1) = (0, 3)) : rch p m = -1 := by unfold rch; rw [h]; rfl
theorem rch_stay {p : Nat → Bool} {m : Nat} (h : (firstP p (m + 1)).2 = 0) : rch p (m + 1) = rch p m := by
  have h2 : firstP p (m + 1 + 1) = firstP p (m + 1) := by show (if _ then _ else _) = _; rw [if_pos h]
  unfold rch; rw [h2]

theorem own_some {w : World} {base size n : Nat} {e : TypeId} {v : Value} {xs : List Value} (h : w.ownsRow base e size v n xs) (hn : 0 < n) : ∃ g cap, v = .slice (some ⟨g, 0, none⟩) n cap := by
  rcases h.2 with ⟨_, h0⟩ | ⟨g, cap, cur, rfl, _⟩
  · omega
  · exact ⟨g, cap, rfl⟩

theorem own_apart {w : World} {b1 b2 s1 s2 n1 n2 : Nat} {e1 e2 : TypeId} {v1 v2 : Value} {xs ys : List Value} (h1 : w.ownsRow b1 e1 s1 v1 n1 xs) (h2 : w.ownsRow b2 e2 s2 v2 n2 ys) (hne : e1 ≠ e2) : v1.ownBlock = none ∨ v1.ownBlock ≠ v2.ownBlock := by
  rcases h1.2 with ⟨rfl, _⟩ | ⟨g, cap, cur, rfl, _, hh, _⟩
  · exact .inl rfl
  · right
    rcases h2.2 with ⟨rfl, _⟩ | ⟨g2, cap2, cur2, rfl, _, hh2, _⟩
    · simp [Value.ownBlock]
    · intro e
      simp [Value.ownBlock] at e
      subst e
      rw [hh] at hh2
      simp at hh2
      exact hne hh2.2

theorem infoI : (Try.prog.info? 2).map (fun i => (i.zero, i.size, i.bytes)) = some (some (.int .i64 0), 1, 8) := by kernel_rfl
theorem infoB : (Try.prog.info? 4).map (fun i => (i.zero, i.size, i.bytes)) = some (some (.bool false), 1, 1) := by kernel_rfl

theorem cells_rep {w : World} {base n g cap : Nat} {e : TypeId} {u : Value} (h : w.ownsRow base e 1 (.slice (some ⟨g, 0, none⟩) n cap) n (List.replicate n u)) : ∀ i, i < n → w.cell? ⟨g, i, none⟩ = some u := by
  intro i hi
  rw [h.cellAt i (by omega), List.getElem?_replicate, if_pos hi]
end Go.Proofs.Ytllmillhdmknpaa
