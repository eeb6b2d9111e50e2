/- Proved here: for every list of entries, every place and every day the program and the reference agree on Reversed, and the arguments are left as they were, without any condition. -/
import Derived.Test.YtllmillhdmknpaaRev
import Derived.Test.YtllmillhdmknpaaEntryI
namespace Go.Proofs.Ytllmillhdmknpaa
open Go.ChangeShapes Go.WideShapes Go.ChangeAt Go.RowKit Go.Deep
open Go.ChangeMaps (open_string shut_string)
set_option linter.unusedVariables false

set_option maxHeartbeats 4000000 in
theorem lawFnExactReversed (a0 : Option Addr) (n0 c0 : Nat) (F0 : Nat → Int) (F1 : Nat → ByteArray) (F2 : Nat → ByteArray) (F3 : Nat → Int) (a1 : Int) (a2 : Int) (w : World) (h0 : InEntry w a0 n0 F0 F1 F2 F3) (h1 : (Lit.int .i64 a1).wf = true) (h2 : (Lit.int .i64 a2).wf = true) :
    Calls Try.prog 6 #[.slice a0 n0 c0, .int .i64 a1, .int .i64 a2] w fun e w' => e = .returned (.bool true) ∧ Below w.heap.size w w' := by
  have H := Lib.hid h0
  clear h0
  obtain ⟨⟨y0, y1, y2, y3, c⟩, hv⟩ : ∃ p, revRes n0 F0 F1 F2 F3 a1 a2 = p := ⟨_, rfl⟩
  have HV := Lib.hid hv
  clear hv
  go_enter Try.func6, Try.ntmps6
  go_wp2_with fail
  refine (szEntryS_in _ _ _ F0 F1 F2 F3 _ H.out).mono ?_
  rintro e w1 ⟨r, hr, rfl, hb1⟩
  rcases hr with hr | ⟨hr0, hr1, hn⟩
  · go_wp2
    go_ret
    exact ⟨rfl, hb1⟩
  · have I1 := Lib.hid (H.out.below hb1)
    have HS1 := Lib.hid H.out.2.1.1
    have HS2 := Lib.hid H.out.2.1.2
    go_wp2_with fail
    refine (toEntryS_in _ _ _ F0 F1 F2 F3 _ I1.out hn).mono ?_
    rintro e w2 ⟨rfl, R2, hb2⟩
    have HR2 := Lib.hid R2
    clear R2
    have B2 := hb1.trans (hb2.mono hb1.size)
    go_wp2_with fail
    refine (specRev_any _ _ F0 F1 F2 F3 _ _ y0 y1 y2 y3 c _ _ hn HR2.out HS1.out HS2.out h1 HV.out).mono ?_
    rintro e w3 ⟨rfl, hb3⟩
    clear HR2
    have B3 := B2.trans (hb3.mono B2.size)
    have B3a := B3.alloc B3.size (.cells #[.int .i64 y0, .string y1, .string y2, .int .i64 y3] 46)
    have I3 := Lib.hid (H.out.below B3a)
    go_wp2_with fail
    refine (toEntryS_in _ _ _ F0 F1 F2 F3 _ I3.out hn).mono ?_
    rintro e w4 ⟨rfl, R4, hb4⟩
    have hs3 : (w3.alloc (.cells #[.int .i64 y0, .string y1, .string y2, .int .i64 y3] 46)).heap.size = w3.heap.size + 1 := by simp
    rw [hs3] at R4
    clear hs3
    have HR4 := Lib.hid R4
    clear R4
    have B4 := B3a.trans (hb4.mono B3a.size)
    go_wp2_with fail
    refine (implRev_any _ _ F0 F1 F2 F3 _ _ y0 y1 y2 y3 c _ _ hn HR4.out HS1.out HS2.out h1 HV.out).mono ?_
    rintro e w5 ⟨rfl, hb5⟩
    have B5 := B4.trans (hb5.mono B4.size)
    have hb45 := hb4.trans (hb5.mono hb4.size)
    have B5a := B5.alloc B5.size (.cells #[.int .i64 y0, .string y1, .string y2, .int .i64 y3] 46)
    have hs5 : w3.heap.size < w5.heap.size := by have := hb45.size; simp at this; omega
    have z0 : w5.cell? ⟨w3.heap.size, 0, none⟩ = some (.int .i64 y0) := (bcell hb45 _ _ (by simp)).trans (by simp)
    have z1 : w5.cell? ⟨w3.heap.size, 1, none⟩ = some (.string y1) := (bcell hb45 _ _ (by simp)).trans (by simp)
    have z2 : w5.cell? ⟨w3.heap.size, 2, none⟩ = some (.string y2) := (bcell hb45 _ _ (by simp)).trans (by simp)
    have z3 : w5.cell? ⟨w3.heap.size, 3, none⟩ = some (.int .i64 y3) := (bcell hb45 _ _ (by simp)).trans (by simp)
    go_wp2_with fail
    refine (eqEntry_any _ _ _ _ _).mono ?_
    rintro e w6 ⟨rfl, hw6⟩
    have hb6 : Below (w5.alloc (.cells #[.int .i64 y0, .string y1, .string y2, .int .i64 y3] 46)).heap.size (w5.alloc (.cells #[.int .i64 y0, .string y1, .string y2, .int .i64 y3] 46)) w6 := by subst hw6; exact (below_new _ _).alloc (by simp) _
    clear hw6 z0 z1 z2 z3
    have B6 := B5a.trans (hb6.mono B5a.size)
    have I6 := Lib.hid (H.out.below B6)
    have HR5 := Lib.hid (row_below ((row_below HR4.out hb5 HR4.out.lt).alloc (.cells #[.int .i64 y0, .string y1, .string y2, .int .i64 y3] 46)) hb6 (by have := (row_below HR4.out hb5 HR4.out.lt).lt; simp; omega))
    clear HR4
    go_wp2_with fail
    refine (toEntryS_in _ _ _ F0 F1 F2 F3 _ I6.out hn).mono ?_
    rintro e w7 ⟨rfl, R7, hb7⟩
    have HR7 := Lib.hid R7
    clear R7
    have HR8 := Lib.hid (row_below HR5.out hb7 HR5.out.lt)
    clear HR5
    have B7 := B6.trans (hb7.mono B6.size)
    go_wp2_with fail
    refine (eqEntryS_any _ _ _ F0 F1 F2 F3 _ _ _ hn HR8.out HR7.out).mono ?_
    rintro e w8 ⟨rfl, hb8⟩
    go_wp2
    go_ret
    exact ⟨rfl, B7.trans (hb8.mono B7.size)⟩

set_option maxRecDepth 100000 in
theorem liftedFnExactReversed (os : Os) (started : os.Started) (H : Type) (enc : TypeId × Value → H) :
    ReturnsInHanded {} Try.checked os 6 .any (Rows.fnExactReversedSpec.pre6 enc Try.prog Try.f6 Rows.fnExactReversedRow.domain false) (Rows.fnExactReversedSpec.post enc Try.prog Try.f6 false true false false) := by
  refine returnsInHanded_of_change (C := Try.checked) own started (by kernel_rfl) Try.func6
    (ChangeSpec.witness6 (enc := enc) (C := Try.checked) false ⟨#[], #[.slice none 0 0, .int .i64 0, .int .i64 0], []⟩ 8 (by kernel_rfl) (by kernel_rfl) (by kernel_rfl) (by kernel_rfl)) ?_
  intro W base args ds gs before hval0 hW hcnd _
  have hval : ∀ (j : Nat) t v, Try.f6.params[j]? = some t → args[j]? = some v → Value.okWide Try.prog W .any base t v := hval0
  have hW' := hW
  obtain ⟨p, q, hA0, hV, rfl, hfz, hnd⟩ := hW
  have hA : DataW.TrodAll enc Try.prog W 0 (fun _ => true) true Try.f6.params.toList args.toList ds p := hA0
  rw [Try.params6] at hA hval
  obtain ⟨v0, vs0, d0, ds0, p0, q0, hargs, rfl, rfl, h0, r0⟩ := trodAll_cons hA
  obtain ⟨v1, vs1, d1, ds1, p1, q1, rfl, rfl, rfl, h1, r1⟩ := trodAll_cons r0
  obtain ⟨v2, vs2, d2, ds2, p2, q2, rfl, rfl, rfl, h2, r2⟩ := trodAll_cons r1
  obtain ⟨rfl, rfl, rfl⟩ := trodAll_nil r2
  obtain rfl : args = #[v0, v1, v2] := by cases args; simp_all
  obtain ⟨rfl, rfl⟩ := trodVars_none hV
  obtain ⟨a0, len0, cap0, rfl⟩ := okWide_slice Try.underlying43 (hval 0 43 v0 rfl rfl)
  have k0 := h0
  have lt0 : ∀ x ∈ p0, x.block < W.heap.size := by obtain ⟨m, hm⟩ := k0; exact DataW.trod_lt m _ _ _ hm
  obtain ⟨F0, F1, F2, F3, w0⟩ : ∃ F0 F1 F2 F3, InEntry W a0 len0 F0 F1 F2 F3 := by
    obtain ⟨fuel, hf⟩ := h0
    exact inEntry_of (by simpa [Value.cells] using hf)
  obtain ⟨a1, rfl, rfl, rfl, w1⟩ := open_int Try.underlying2 (hval 1 2 v1 rfl rfl) h1
  obtain ⟨a2, rfl, rfl, rfl, w2⟩ := open_int Try.underlying2 (hval 2 2 v2 rfl rfl) h2
  clear hA0 hval0
  refine (lawFnExactReversed a0 len0 cap0 F0 F1 F2 F3 a1 a2 W w0 w1 w2).mono fun e W' ⟨he, bel⟩ => ?_
  subst he
  exact ⟨_, rfl, _, _, _, [], _, [], hW', trodAll_mk1 (shut_bool Try.underlying4 _), (trodAll_cons_mk (Below.trod laidOut (by kernel_rfl) (of_decide_eq_true (by kernel_rfl)) k0 bel lt0) (trodAll_cons_mk (shut_int Try.underlying2 w1) (trodAll_cons_mk (shut_int Try.underlying2 w2) trodAll_mk0))), rfl, bel.frame _, fun h => by cases h⟩

/-- The law FnExactReversed returns true for every input, and leaves its arguments as they were. -/
theorem fnExactReversed_holds : Rows.FnExactReversedSaid :=
  OpenClaim.holds_of_wide 6 Try.f6 rfl rfl rfl rfl rfl rfl rfl ⟨rfl, rfl, rfl, rfl, rfl⟩ rfl rfl rfl rfl rfl (by kernel_rfl) Try.func6 (by kernel_rfl)
    (of_decide_eq_true (by kernel_rfl)) (by unfold Func.isWrapper; first | (rw [if_pos (by decide +kernel)]; kernel_rfl) | (rw [if_neg (by decide +kernel)]; exact ⟨rfl, rfl⟩))
    (fun os started H enc _ => liftedFnExactReversed os started H enc)
end Go.Proofs.Ytllmillhdmknpaa
