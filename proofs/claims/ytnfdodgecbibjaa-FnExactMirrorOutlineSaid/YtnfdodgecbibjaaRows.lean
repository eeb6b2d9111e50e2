/-
  No cell of these rows narrows 'for every input' (looked for: loops, veiled, ifaces, maps, wideKeys, modest, calm, conditions, laid).
  DERIVED. THE GIVEN ROWS OF THIS SEAT. 5 by the template 'for every input the law returns true; each argument reads behind the call as it read before'; 0 by the template 'total and deterministic' (their statements: YtnfdodgecbibjaaTotals.lean).
  GIVEN WITH THE SEED: the statements are not yours to turn. If you find one false, say at which input.
  Laid BY PROGRAM, IN A SANDBOX (cutbox-rows.mjs): the forced cells as the released guide's own fill.sh prints them over the translation 7d484a461cc1a263… (all of the seat's roots in one cut). By AI agents, Wed Nov 11 2026. No macro, syntax, notation, axiom, sorry.
-/
import Derived.Test.YtnfdodgecbibjaaChecked
import GoSem.Claim
import GoSem.ClaimJoined
import GoSem.ClaimMapViews
import Derived.JoinedTies
import Derived.KernelRfl
namespace Go.Proofs.Ytnfdodgecbibjaa
/- THE CELL 'sum', in the pinned program and in every row, IS THE sha256 OF THE DUMP (.gsa) THAT YtnfdodgecbibjaaProg.lean LOADS. Nothing in Lean hashes anything: it is a label: what it is worth is what the hold of that sum in a sandbox is worth. -/
noncomputable def Try.pinned : Pinned := { name := "ytnfdodgecbibjaa", sum := "7d484a461cc1a2630163b127ddee0639b0635f5326cc1fce9a3dc3e6e47481d4", checked := Try.checked }
namespace Rows
def none {H : Type} : Left H := { results := [], args := [] }

/-- 'laws.FnExactTwiceArea': WHATEVER THE INPUT: true; the input reads as it did. -/
def fnExactTwiceAreaSpec : ChangeSpec := { name := "fnExactTwiceArea", fn := fun _ => fun
  | [d] => { results := [.lit (.bool true)], args := [d] }
  | _ => none }
def fnExactTwiceAreaRow : OpenClaim := { program := "ytnfdodgecbibjaa", sum := "7d484a461cc1a2630163b127ddee0639b0635f5326cc1fce9a3dc3e6e47481d4", func := "loop.example/g01061/laws.FnExactTwiceArea", spec := "fnExactTwiceArea", apart := false }
def FnExactTwiceAreaSaid : Prop := fnExactTwiceAreaRow.holds Try.pinned (OpenSpec.ofChange fnExactTwiceAreaSpec)

/-- ITS FALSE NEIGHBOUR: 'it returns false'. Refute it at one input. -/
def fnExactTwiceAreaWrong : ChangeSpec := { name := "fnExactTwiceArea", fn := fun _ => fun
  | [d] => { results := [.lit (.bool false)], args := [d] }
  | _ => none }
def FnExactTwiceAreaWrongFalsely : Prop := fnExactTwiceAreaRow.holds Try.pinned (OpenSpec.ofChange fnExactTwiceAreaWrong)

/-- 'laws.FnExactSharpestOf': WHATEVER THE INPUT: true; the input reads as it did. -/
def fnExactSharpestOfSpec : ChangeSpec := { name := "fnExactSharpestOf", fn := fun _ => fun
  | [d] => { results := [.lit (.bool true)], args := [d] }
  | _ => none }
def fnExactSharpestOfRow : OpenClaim := { program := "ytnfdodgecbibjaa", sum := "7d484a461cc1a2630163b127ddee0639b0635f5326cc1fce9a3dc3e6e47481d4", func := "loop.example/g01061/laws.FnExactSharpestOf", spec := "fnExactSharpestOf", apart := false }
def FnExactSharpestOfSaid : Prop := fnExactSharpestOfRow.holds Try.pinned (OpenSpec.ofChange fnExactSharpestOfSpec)

/-- ITS FALSE NEIGHBOUR: 'it returns false'. Refute it at one input. -/
def fnExactSharpestOfWrong : ChangeSpec := { name := "fnExactSharpestOf", fn := fun _ => fun
  | [d] => { results := [.lit (.bool false)], args := [d] }
  | _ => none }
def FnExactSharpestOfWrongFalsely : Prop := fnExactSharpestOfRow.holds Try.pinned (OpenSpec.ofChange fnExactSharpestOfWrong)

/-- 'laws.FnExactBoxOf': WHATEVER THE INPUT: true; the input reads as it did. -/
def fnExactBoxOfSpec : ChangeSpec := { name := "fnExactBoxOf", fn := fun _ => fun
  | [d] => { results := [.lit (.bool true)], args := [d] }
  | _ => none }
def fnExactBoxOfRow : OpenClaim := { program := "ytnfdodgecbibjaa", sum := "7d484a461cc1a2630163b127ddee0639b0635f5326cc1fce9a3dc3e6e47481d4", func := "loop.example/g01061/laws.FnExactBoxOf", spec := "fnExactBoxOf", apart := false }
def FnExactBoxOfSaid : Prop := fnExactBoxOfRow.holds Try.pinned (OpenSpec.ofChange fnExactBoxOfSpec)

/-- ITS FALSE NEIGHBOUR: 'it returns false'. Refute it at one input. -/
def fnExactBoxOfWrong : ChangeSpec := { name := "fnExactBoxOf", fn := fun _ => fun
  | [d] => { results := [.lit (.bool false)], args := [d] }
  | _ => none }
def FnExactBoxOfWrongFalsely : Prop := fnExactBoxOfRow.holds Try.pinned (OpenSpec.ofChange fnExactBoxOfWrong)

/-- 'laws.FnExactIsSmooth': WHATEVER THE INPUT: true; the input reads as it did. -/
def fnExactIsSmoothSpec : ChangeSpec := { name := "fnExactIsSmooth", fn := fun _ => fun
  | [d] => { results := [.lit (.bool true)], args := [d] }
  | _ => none }
def fnExactIsSmoothRow : OpenClaim := { program := "ytnfdodgecbibjaa", sum := "7d484a461cc1a2630163b127ddee0639b0635f5326cc1fce9a3dc3e6e47481d4", func := "loop.example/g01061/laws.FnExactIsSmooth", spec := "fnExactIsSmooth", apart := false }
def FnExactIsSmoothSaid : Prop := fnExactIsSmoothRow.holds Try.pinned (OpenSpec.ofChange fnExactIsSmoothSpec)

/-- ITS FALSE NEIGHBOUR: 'it returns false'. Refute it at one input. -/
def fnExactIsSmoothWrong : ChangeSpec := { name := "fnExactIsSmooth", fn := fun _ => fun
  | [d] => { results := [.lit (.bool false)], args := [d] }
  | _ => none }
def FnExactIsSmoothWrongFalsely : Prop := fnExactIsSmoothRow.holds Try.pinned (OpenSpec.ofChange fnExactIsSmoothWrong)

/-- 'laws.FnExactMirrorOutline': WHATEVER THE INPUT: true; the input reads as it did. -/
def fnExactMirrorOutlineSpec : ChangeSpec := { name := "fnExactMirrorOutline", fn := fun _ => fun
  | [d] => { results := [.lit (.bool true)], args := [d] }
  | _ => none }
def fnExactMirrorOutlineRow : OpenClaim := { program := "ytnfdodgecbibjaa", sum := "7d484a461cc1a2630163b127ddee0639b0635f5326cc1fce9a3dc3e6e47481d4", func := "loop.example/g01061/laws.FnExactMirrorOutline", spec := "fnExactMirrorOutline", apart := false }
def FnExactMirrorOutlineSaid : Prop := fnExactMirrorOutlineRow.holds Try.pinned (OpenSpec.ofChange fnExactMirrorOutlineSpec)

/-- ITS FALSE NEIGHBOUR: 'it returns false'. Refute it at one input. -/
def fnExactMirrorOutlineWrong : ChangeSpec := { name := "fnExactMirrorOutline", fn := fun _ => fun
  | [d] => { results := [.lit (.bool false)], args := [d] }
  | _ => none }
def FnExactMirrorOutlineWrongFalsely : Prop := fnExactMirrorOutlineRow.holds Try.pinned (OpenSpec.ofChange fnExactMirrorOutlineWrong)

/- THE SECOND FORM. 'bulk': how many values and letters a reading holds, each counted each time it is reached (what is shared counts as often as it is met; a slice's spare places count too). A statement '..UptoSaid' is the law's where the arguments, and the package variables that the reading takes, are together of bulk at most 1048576: NARROWER than '..Said'. Prove '..Said' where nothing that the law and all that it calls make is longer than what came in: it says more and counts as full. Else prove '..UptoSaid'. A law counts once. -/
mutual
def uptoBulk {H : Type} : DataW H → Nat
  | .lit (.string bytes) => bytes.length + 1
  | .lit _ => 1
  | .nil => 1
  | .ptr d => uptoBulk d + 1
  | .slice elems spare => uptoBulkAll elems + uptoBulkAll spare + 1
  | .agg parts => uptoBulkAll parts + 1
  | .iface _ d => uptoBulk d + 1
  | .map entries => uptoBulkEntries entries + 1
  | .held _ => 1
def uptoBulkAll {H : Type} : List (DataW H) → Nat
  | [] => 0
  | d :: r => uptoBulk d + uptoBulkAll r
def uptoBulkEntries {H : Type} : List (Lit × DataW H) → Nat
  | [] => 0
  | x :: r => uptoBulkEntry x + uptoBulkEntries r
def uptoBulkEntry {H : Type} : Lit × DataW H → Nat
  | (.string bytes, d) => bytes.length + uptoBulk d + 1
  | (_, d) => uptoBulk d + 1
 end
def uptoSmall : (H : Type) → List (DataW H) → Bool := fun _ ds => decide (uptoBulkAll ds ≤ 1048576)
def OpenSpec.upto (s : _root_.Go.ChangeSpec) : _root_.Go.OpenSpec := { _root_.Go.OpenSpec.ofChange s with cond := some uptoSmall }

/-- 'laws.FnExactTwiceArea', WHERE WHAT IT READS IS OF BULK AT MOST 1048576: true; the input reads as it did. -/
def fnExactTwiceAreaUptoRow : OpenClaim := { program := "ytnfdodgecbibjaa", sum := "7d484a461cc1a2630163b127ddee0639b0635f5326cc1fce9a3dc3e6e47481d4", func := "loop.example/g01061/laws.FnExactTwiceArea", spec := "fnExactTwiceArea", apart := false, narrowed := true }
def FnExactTwiceAreaUptoSaid : Prop := fnExactTwiceAreaUptoRow.holds Try.pinned (OpenSpec.upto fnExactTwiceAreaSpec)

/-- 'laws.FnExactSharpestOf', WHERE WHAT IT READS IS OF BULK AT MOST 1048576: true; the input reads as it did. -/
def fnExactSharpestOfUptoRow : OpenClaim := { program := "ytnfdodgecbibjaa", sum := "7d484a461cc1a2630163b127ddee0639b0635f5326cc1fce9a3dc3e6e47481d4", func := "loop.example/g01061/laws.FnExactSharpestOf", spec := "fnExactSharpestOf", apart := false, narrowed := true }
def FnExactSharpestOfUptoSaid : Prop := fnExactSharpestOfUptoRow.holds Try.pinned (OpenSpec.upto fnExactSharpestOfSpec)

/-- 'laws.FnExactBoxOf', WHERE WHAT IT READS IS OF BULK AT MOST 1048576: true; the input reads as it did. -/
def fnExactBoxOfUptoRow : OpenClaim := { program := "ytnfdodgecbibjaa", sum := "7d484a461cc1a2630163b127ddee0639b0635f5326cc1fce9a3dc3e6e47481d4", func := "loop.example/g01061/laws.FnExactBoxOf", spec := "fnExactBoxOf", apart := false, narrowed := true }
def FnExactBoxOfUptoSaid : Prop := fnExactBoxOfUptoRow.holds Try.pinned (OpenSpec.upto fnExactBoxOfSpec)

/-- 'laws.FnExactIsSmooth', WHERE WHAT IT READS IS OF BULK AT MOST 1048576: true; the input reads as it did. -/
def fnExactIsSmoothUptoRow : OpenClaim := { program := "ytnfdodgecbibjaa", sum := "7d484a461cc1a2630163b127ddee0639b0635f5326cc1fce9a3dc3e6e47481d4", func := "loop.example/g01061/laws.FnExactIsSmooth", spec := "fnExactIsSmooth", apart := false, narrowed := true }
def FnExactIsSmoothUptoSaid : Prop := fnExactIsSmoothUptoRow.holds Try.pinned (OpenSpec.upto fnExactIsSmoothSpec)

/-- 'laws.FnExactMirrorOutline', WHERE WHAT IT READS IS OF BULK AT MOST 1048576: true; the input reads as it did. -/
def fnExactMirrorOutlineUptoRow : OpenClaim := { program := "ytnfdodgecbibjaa", sum := "7d484a461cc1a2630163b127ddee0639b0635f5326cc1fce9a3dc3e6e47481d4", func := "loop.example/g01061/laws.FnExactMirrorOutline", spec := "fnExactMirrorOutline", apart := false, narrowed := true }
def FnExactMirrorOutlineUptoSaid : Prop := fnExactMirrorOutlineUptoRow.holds Try.pinned (OpenSpec.upto fnExactMirrorOutlineSpec)

end Rows
end Go.Proofs.Ytnfdodgecbibjaa
