/-
  No cell of these rows narrows 'for every input' (looked for: loops, veiled, ifaces, maps, wideKeys, modest, calm, conditions, laid).
  DERIVED. THE GIVEN ROWS OF THIS SEAT. 12 by the template 'for every input the law returns true; each argument reads behind the call as it read before'; 0 by the template 'total and deterministic' (their statements: YtlpjjhjbejjddaaTotals.lean).
  GIVEN WITH THE SEED: the statements are not yours to turn. If you find one false, say at which input.
  Laid BY PROGRAM, IN A SANDBOX (cutbox-rows.mjs): the forced cells as the released guide's own fill.sh prints them over the translation 270f6f320bdaa98c… (all of the seat's roots in one cut). By AI agents, Wed Nov 11 2026. No macro, syntax, notation, axiom, sorry.
-/
import Derived.Test.YtlpjjhjbejjddaaChecked
import GoSem.Claim
import GoSem.ClaimJoined
import GoSem.ClaimMapViews
import Derived.JoinedTies
import Derived.KernelRfl
namespace Go.Proofs.Ytlpjjhjbejjddaa
/- THE CELL 'sum', in the pinned program and in every row, IS THE sha256 OF THE DUMP (.gsa) THAT YtlpjjhjbejjddaaProg.lean LOADS. Nothing in Lean hashes anything: it is a label: what it is worth is what the hold of that sum in a sandbox is worth. -/
noncomputable def Try.pinned : Pinned := { name := "ytlpjjhjbejjddaa", sum := "270f6f320bdaa98cd35e26e6a65bfb56ac62c629c6df3b7874717a9569f0d5c1", checked := Try.checked }
namespace Rows
def none {H : Type} : Left H := { results := [], args := [] }

/-- 'laws.FnExactClosestModes': WHATEVER THE INPUT: true; the input reads as it did. -/
def fnExactClosestModesSpec : ChangeSpec := { name := "fnExactClosestModes", fn := fun _ => fun
  | [d] => { results := [.lit (.bool true)], args := [d] }
  | _ => none }
def fnExactClosestModesRow : OpenClaim := { program := "ytlpjjhjbejjddaa", sum := "270f6f320bdaa98cd35e26e6a65bfb56ac62c629c6df3b7874717a9569f0d5c1", func := "loop.example/g01061/laws.FnExactClosestModes", spec := "fnExactClosestModes", apart := false }
def FnExactClosestModesSaid : Prop := fnExactClosestModesRow.holds Try.pinned (OpenSpec.ofChange fnExactClosestModesSpec)

/-- ITS FALSE NEIGHBOUR: 'it returns false'. Refute it at one input. -/
def fnExactClosestModesWrong : ChangeSpec := { name := "fnExactClosestModes", fn := fun _ => fun
  | [d] => { results := [.lit (.bool false)], args := [d] }
  | _ => none }
def FnExactClosestModesWrongFalsely : Prop := fnExactClosestModesRow.holds Try.pinned (OpenSpec.ofChange fnExactClosestModesWrong)

/-- 'laws.FnExactBestShare': WHATEVER THE INPUT: true; the input reads as it did. -/
def fnExactBestShareSpec : ChangeSpec := { name := "fnExactBestShare", fn := fun _ => fun
  | [d1, d2] => { results := [.lit (.bool true)], args := [d1, d2] }
  | _ => none }
def fnExactBestShareRow : OpenClaim := { program := "ytlpjjhjbejjddaa", sum := "270f6f320bdaa98cd35e26e6a65bfb56ac62c629c6df3b7874717a9569f0d5c1", func := "loop.example/g01061/laws.FnExactBestShare", spec := "fnExactBestShare", unfollowed := true, recurses := true, apart := false }
def FnExactBestShareSaid : Prop := fnExactBestShareRow.holds Try.pinned (OpenSpec.ofChange fnExactBestShareSpec)

/-- ITS FALSE NEIGHBOUR: 'it returns false'. Refute it at one input. -/
def fnExactBestShareWrong : ChangeSpec := { name := "fnExactBestShare", fn := fun _ => fun
  | [d1, d2] => { results := [.lit (.bool false)], args := [d1, d2] }
  | _ => none }
def FnExactBestShareWrongFalsely : Prop := fnExactBestShareRow.holds Try.pinned (OpenSpec.ofChange fnExactBestShareWrong)

/-- 'laws.FnExactSafeHumidity': WHATEVER THE INPUT: true; the input reads as it did. -/
def fnExactSafeHumiditySpec : ChangeSpec := { name := "fnExactSafeHumidity", fn := fun _ => fun
  | [d1, d2] => { results := [.lit (.bool true)], args := [d1, d2] }
  | _ => none }
def fnExactSafeHumidityRow : OpenClaim := { program := "ytlpjjhjbejjddaa", sum := "270f6f320bdaa98cd35e26e6a65bfb56ac62c629c6df3b7874717a9569f0d5c1", func := "loop.example/g01061/laws.FnExactSafeHumidity", spec := "fnExactSafeHumidity", apart := false }
def FnExactSafeHumiditySaid : Prop := fnExactSafeHumidityRow.holds Try.pinned (OpenSpec.ofChange fnExactSafeHumiditySpec)

/-- ITS FALSE NEIGHBOUR: 'it returns false'. Refute it at one input. -/
def fnExactSafeHumidityWrong : ChangeSpec := { name := "fnExactSafeHumidity", fn := fun _ => fun
  | [d1, d2] => { results := [.lit (.bool false)], args := [d1, d2] }
  | _ => none }
def FnExactSafeHumidityWrongFalsely : Prop := fnExactSafeHumidityRow.holds Try.pinned (OpenSpec.ofChange fnExactSafeHumidityWrong)

/-- 'laws.FnExactMoistureAfter': WHATEVER THE INPUT: true; the input reads as it did. -/
def fnExactMoistureAfterSpec : ChangeSpec := { name := "fnExactMoistureAfter", fn := fun _ => fun
  | [d1, d2, d3] => { results := [.lit (.bool true)], args := [d1, d2, d3] }
  | _ => none }
def fnExactMoistureAfterRow : OpenClaim := { program := "ytlpjjhjbejjddaa", sum := "270f6f320bdaa98cd35e26e6a65bfb56ac62c629c6df3b7874717a9569f0d5c1", func := "loop.example/g01061/laws.FnExactMoistureAfter", spec := "fnExactMoistureAfter", apart := false }
def FnExactMoistureAfterSaid : Prop := fnExactMoistureAfterRow.holds Try.pinned (OpenSpec.ofChange fnExactMoistureAfterSpec)

/-- ITS FALSE NEIGHBOUR: 'it returns false'. Refute it at one input. -/
def fnExactMoistureAfterWrong : ChangeSpec := { name := "fnExactMoistureAfter", fn := fun _ => fun
  | [d1, d2, d3] => { results := [.lit (.bool false)], args := [d1, d2, d3] }
  | _ => none }
def FnExactMoistureAfterWrongFalsely : Prop := fnExactMoistureAfterRow.holds Try.pinned (OpenSpec.ofChange fnExactMoistureAfterWrong)

/-- 'laws.FnExactDaysToDry': WHATEVER THE INPUT: true; the input reads as it did. -/
def fnExactDaysToDrySpec : ChangeSpec := { name := "fnExactDaysToDry", fn := fun _ => fun
  | [d1, d2, d3] => { results := [.lit (.bool true)], args := [d1, d2, d3] }
  | _ => none }
def fnExactDaysToDryRow : OpenClaim := { program := "ytlpjjhjbejjddaa", sum := "270f6f320bdaa98cd35e26e6a65bfb56ac62c629c6df3b7874717a9569f0d5c1", func := "loop.example/g01061/laws.FnExactDaysToDry", spec := "fnExactDaysToDry", apart := false }
def FnExactDaysToDrySaid : Prop := fnExactDaysToDryRow.holds Try.pinned (OpenSpec.ofChange fnExactDaysToDrySpec)

/-- ITS FALSE NEIGHBOUR: 'it returns false'. Refute it at one input. -/
def fnExactDaysToDryWrong : ChangeSpec := { name := "fnExactDaysToDry", fn := fun _ => fun
  | [d1, d2, d3] => { results := [.lit (.bool false)], args := [d1, d2, d3] }
  | _ => none }
def FnExactDaysToDryWrongFalsely : Prop := fnExactDaysToDryRow.holds Try.pinned (OpenSpec.ofChange fnExactDaysToDryWrong)

/-- 'laws.FnExactOldestStack': WHATEVER THE INPUT: true; the input reads as it did. -/
def fnExactOldestStackSpec : ChangeSpec := { name := "fnExactOldestStack", fn := fun _ => fun
  | [d1, d2] => { results := [.lit (.bool true)], args := [d1, d2] }
  | _ => none }
def fnExactOldestStackRow : OpenClaim := { program := "ytlpjjhjbejjddaa", sum := "270f6f320bdaa98cd35e26e6a65bfb56ac62c629c6df3b7874717a9569f0d5c1", func := "loop.example/g01061/laws.FnExactOldestStack", spec := "fnExactOldestStack", apart := false }
def FnExactOldestStackSaid : Prop := fnExactOldestStackRow.holds Try.pinned (OpenSpec.ofChange fnExactOldestStackSpec)

/-- ITS FALSE NEIGHBOUR: 'it returns false'. Refute it at one input. -/
def fnExactOldestStackWrong : ChangeSpec := { name := "fnExactOldestStack", fn := fun _ => fun
  | [d1, d2] => { results := [.lit (.bool false)], args := [d1, d2] }
  | _ => none }
def FnExactOldestStackWrongFalsely : Prop := fnExactOldestStackRow.holds Try.pinned (OpenSpec.ofChange fnExactOldestStackWrong)

/-- 'laws.FnExactCrackDays': WHATEVER THE INPUT: true; the input reads as it did. -/
def fnExactCrackDaysSpec : ChangeSpec := { name := "fnExactCrackDays", fn := fun _ => fun
  | [d1, d2, d3, d4] => { results := [.lit (.bool true)], args := [d1, d2, d3, d4] }
  | _ => none }
def fnExactCrackDaysRow : OpenClaim := { program := "ytlpjjhjbejjddaa", sum := "270f6f320bdaa98cd35e26e6a65bfb56ac62c629c6df3b7874717a9569f0d5c1", func := "loop.example/g01061/laws.FnExactCrackDays", spec := "fnExactCrackDays", apart := false }
def FnExactCrackDaysSaid : Prop := fnExactCrackDaysRow.holds Try.pinned (OpenSpec.ofChange fnExactCrackDaysSpec)

/-- ITS FALSE NEIGHBOUR: 'it returns false'. Refute it at one input. -/
def fnExactCrackDaysWrong : ChangeSpec := { name := "fnExactCrackDays", fn := fun _ => fun
  | [d1, d2, d3, d4] => { results := [.lit (.bool false)], args := [d1, d2, d3, d4] }
  | _ => none }
def FnExactCrackDaysWrongFalsely : Prop := fnExactCrackDaysRow.holds Try.pinned (OpenSpec.ofChange fnExactCrackDaysWrong)

/-- 'laws.FnExactIsChain': WHATEVER THE INPUT: true; the input reads as it did. -/
def fnExactIsChainSpec : ChangeSpec := { name := "fnExactIsChain", fn := fun _ => fun
  | [d1, d2] => { results := [.lit (.bool true)], args := [d1, d2] }
  | _ => none }
def fnExactIsChainRow : OpenClaim := { program := "ytlpjjhjbejjddaa", sum := "270f6f320bdaa98cd35e26e6a65bfb56ac62c629c6df3b7874717a9569f0d5c1", func := "loop.example/g01061/laws.FnExactIsChain", spec := "fnExactIsChain", apart := false }
def FnExactIsChainSaid : Prop := fnExactIsChainRow.holds Try.pinned (OpenSpec.ofChange fnExactIsChainSpec)

/-- ITS FALSE NEIGHBOUR: 'it returns false'. Refute it at one input. -/
def fnExactIsChainWrong : ChangeSpec := { name := "fnExactIsChain", fn := fun _ => fun
  | [d1, d2] => { results := [.lit (.bool false)], args := [d1, d2] }
  | _ => none }
def FnExactIsChainWrongFalsely : Prop := fnExactIsChainRow.holds Try.pinned (OpenSpec.ofChange fnExactIsChainWrong)

/-- 'laws.FnExactValidCoats': WHATEVER THE INPUT: true; the input reads as it did. -/
def fnExactValidCoatsSpec : ChangeSpec := { name := "fnExactValidCoats", fn := fun _ => fun
  | [d] => { results := [.lit (.bool true)], args := [d] }
  | _ => none }
def fnExactValidCoatsRow : OpenClaim := { program := "ytlpjjhjbejjddaa", sum := "270f6f320bdaa98cd35e26e6a65bfb56ac62c629c6df3b7874717a9569f0d5c1", func := "loop.example/g01061/laws.FnExactValidCoats", spec := "fnExactValidCoats", apart := false }
def FnExactValidCoatsSaid : Prop := fnExactValidCoatsRow.holds Try.pinned (OpenSpec.ofChange fnExactValidCoatsSpec)

/-- ITS FALSE NEIGHBOUR: 'it returns false'. Refute it at one input. -/
def fnExactValidCoatsWrong : ChangeSpec := { name := "fnExactValidCoats", fn := fun _ => fun
  | [d] => { results := [.lit (.bool false)], args := [d] }
  | _ => none }
def FnExactValidCoatsWrongFalsely : Prop := fnExactValidCoatsRow.holds Try.pinned (OpenSpec.ofChange fnExactValidCoatsWrong)

/-- 'laws.FnExactSpentBy': WHATEVER THE INPUT: true; the input reads as it did. -/
def fnExactSpentBySpec : ChangeSpec := { name := "fnExactSpentBy", fn := fun _ => fun
  | [d1, d2] => { results := [.lit (.bool true)], args := [d1, d2] }
  | _ => none }
def fnExactSpentByRow : OpenClaim := { program := "ytlpjjhjbejjddaa", sum := "270f6f320bdaa98cd35e26e6a65bfb56ac62c629c6df3b7874717a9569f0d5c1", func := "loop.example/g01061/laws.FnExactSpentBy", spec := "fnExactSpentBy", unfollowed := true, recurses := true, apart := false }
def FnExactSpentBySaid : Prop := fnExactSpentByRow.holds Try.pinned (OpenSpec.ofChange fnExactSpentBySpec)

/-- ITS FALSE NEIGHBOUR: 'it returns false'. Refute it at one input. -/
def fnExactSpentByWrong : ChangeSpec := { name := "fnExactSpentBy", fn := fun _ => fun
  | [d1, d2] => { results := [.lit (.bool false)], args := [d1, d2] }
  | _ => none }
def FnExactSpentByWrongFalsely : Prop := fnExactSpentByRow.holds Try.pinned (OpenSpec.ofChange fnExactSpentByWrong)

/-- 'laws.FnExactLastVisit': WHATEVER THE INPUT: true; the input reads as it did. -/
def fnExactLastVisitSpec : ChangeSpec := { name := "fnExactLastVisit", fn := fun _ => fun
  | [d1, d2] => { results := [.lit (.bool true)], args := [d1, d2] }
  | _ => none }
def fnExactLastVisitRow : OpenClaim := { program := "ytlpjjhjbejjddaa", sum := "270f6f320bdaa98cd35e26e6a65bfb56ac62c629c6df3b7874717a9569f0d5c1", func := "loop.example/g01061/laws.FnExactLastVisit", spec := "fnExactLastVisit", unfollowed := true, recurses := true, apart := false }
def FnExactLastVisitSaid : Prop := fnExactLastVisitRow.holds Try.pinned (OpenSpec.ofChange fnExactLastVisitSpec)

/-- ITS FALSE NEIGHBOUR: 'it returns false'. Refute it at one input. -/
def fnExactLastVisitWrong : ChangeSpec := { name := "fnExactLastVisit", fn := fun _ => fun
  | [d1, d2] => { results := [.lit (.bool false)], args := [d1, d2] }
  | _ => none }
def FnExactLastVisitWrongFalsely : Prop := fnExactLastVisitRow.holds Try.pinned (OpenSpec.ofChange fnExactLastVisitWrong)

/-- 'laws.FnBelief': WHATEVER THE INPUT: true; the input reads as it did. -/
def fnBeliefSpec : ChangeSpec := { name := "fnBelief", fn := fun _ => fun
  | [d1, d2] => { results := [.lit (.bool true)], args := [d1, d2] }
  | _ => none }
def fnBeliefRow : OpenClaim := { program := "ytlpjjhjbejjddaa", sum := "270f6f320bdaa98cd35e26e6a65bfb56ac62c629c6df3b7874717a9569f0d5c1", func := "loop.example/g01061/laws.FnBelief", spec := "fnBelief", apart := false }
def FnBeliefSaid : Prop := fnBeliefRow.holds Try.pinned (OpenSpec.ofChange fnBeliefSpec)

/-- ITS FALSE NEIGHBOUR: 'it returns false'. Refute it at one input. -/
def fnBeliefWrong : ChangeSpec := { name := "fnBelief", fn := fun _ => fun
  | [d1, d2] => { results := [.lit (.bool false)], args := [d1, d2] }
  | _ => none }
def FnBeliefWrongFalsely : Prop := fnBeliefRow.holds Try.pinned (OpenSpec.ofChange fnBeliefWrong)

/- THE SECOND FORM. 'bulk': how many values and letters a reading holds, each counted each time it is reached (what is shared counts as often as it is met; a slice's spare places count too). A statement '..UptoSaid' is the law's where the arguments, and the package variables that the reading takes, are together of bulk at most 1048576: NARROWER than '..Said'. Prove '..Said' where nothing that the law and all that it calls make is longer than what came in: it says more and counts as full. Else prove '..UptoSaid'. A law counts once. -/
mutual
def uptoBulk {H : Type} : DataW H → Nat
  | .lit (.string bytes) => bytes.length + 1
  | .lit _ => 1
  | .nil => 1
  | .ptr d => uptoBulk d + 1
  | .slice elems spare => uptoBulkAll elems + uptoBulkAll spare + 1
  | .agg parts => uptoBulkAll parts + 1
  | .iface _ d => uptoBulk d + 1
  | .map entries => uptoBulkEntries entries + 1
  | .held _ => 1
def uptoBulkAll {H : Type} : List (DataW H) → Nat
  | [] => 0
  | d :: r => uptoBulk d + uptoBulkAll r
def uptoBulkEntries {H : Type} : List (Lit × DataW H) → Nat
  | [] => 0
  | x :: r => uptoBulkEntry x + uptoBulkEntries r
def uptoBulkEntry {H : Type} : Lit × DataW H → Nat
  | (.string bytes, d) => bytes.length + uptoBulk d + 1
  | (_, d) => uptoBulk d + 1
 end
def uptoSmall : (H : Type) → List (DataW H) → Bool := fun _ ds => decide (uptoBulkAll ds ≤ 1048576)
def OpenSpec.upto (s : _root_.Go.ChangeSpec) : _root_.Go.OpenSpec := { _root_.Go.OpenSpec.ofChange s with cond := some uptoSmall }

/-- 'laws.FnExactClosestModes', WHERE WHAT IT READS IS OF BULK AT MOST 1048576: true; the input reads as it did. -/
def fnExactClosestModesUptoRow : OpenClaim := { program := "ytlpjjhjbejjddaa", sum := "270f6f320bdaa98cd35e26e6a65bfb56ac62c629c6df3b7874717a9569f0d5c1", func := "loop.example/g01061/laws.FnExactClosestModes", spec := "fnExactClosestModes", apart := false, narrowed := true }
def FnExactClosestModesUptoSaid : Prop := fnExactClosestModesUptoRow.holds Try.pinned (OpenSpec.upto fnExactClosestModesSpec)

/-- 'laws.FnExactBestShare', WHERE WHAT IT READS IS OF BULK AT MOST 1048576: true; the input reads as it did. -/
def fnExactBestShareUptoRow : OpenClaim := { program := "ytlpjjhjbejjddaa", sum := "270f6f320bdaa98cd35e26e6a65bfb56ac62c629c6df3b7874717a9569f0d5c1", func := "loop.example/g01061/laws.FnExactBestShare", spec := "fnExactBestShare", unfollowed := true, recurses := true, apart := false, narrowed := true }
def FnExactBestShareUptoSaid : Prop := fnExactBestShareUptoRow.holds Try.pinned (OpenSpec.upto fnExactBestShareSpec)

/-- 'laws.FnExactSafeHumidity', WHERE WHAT IT READS IS OF BULK AT MOST 1048576: true; the input reads as it did. -/
def fnExactSafeHumidityUptoRow : OpenClaim := { program := "ytlpjjhjbejjddaa", sum := "270f6f320bdaa98cd35e26e6a65bfb56ac62c629c6df3b7874717a9569f0d5c1", func := "loop.example/g01061/laws.FnExactSafeHumidity", spec := "fnExactSafeHumidity", apart := false, narrowed := true }
def FnExactSafeHumidityUptoSaid : Prop := fnExactSafeHumidityUptoRow.holds Try.pinned (OpenSpec.upto fnExactSafeHumiditySpec)

/-- 'laws.FnExactMoistureAfter', WHERE WHAT IT READS IS OF BULK AT MOST 1048576: true; the input reads as it did. -/
def fnExactMoistureAfterUptoRow : OpenClaim := { program := "ytlpjjhjbejjddaa", sum := "270f6f320bdaa98cd35e26e6a65bfb56ac62c629c6df3b7874717a9569f0d5c1", func := "loop.example/g01061/laws.FnExactMoistureAfter", spec := "fnExactMoistureAfter", apart := false, narrowed := true }
def FnExactMoistureAfterUptoSaid : Prop := fnExactMoistureAfterUptoRow.holds Try.pinned (OpenSpec.upto fnExactMoistureAfterSpec)

/-- 'laws.FnExactDaysToDry', WHERE WHAT IT READS IS OF BULK AT MOST 1048576: true; the input reads as it did. -/
def fnExactDaysToDryUptoRow : OpenClaim := { program := "ytlpjjhjbejjddaa", sum := "270f6f320bdaa98cd35e26e6a65bfb56ac62c629c6df3b7874717a9569f0d5c1", func := "loop.example/g01061/laws.FnExactDaysToDry", spec := "fnExactDaysToDry", apart := false, narrowed := true }
def FnExactDaysToDryUptoSaid : Prop := fnExactDaysToDryUptoRow.holds Try.pinned (OpenSpec.upto fnExactDaysToDrySpec)

/-- 'laws.FnExactOldestStack', WHERE WHAT IT READS IS OF BULK AT MOST 1048576: true; the input reads as it did. -/
def fnExactOldestStackUptoRow : OpenClaim := { program := "ytlpjjhjbejjddaa", sum := "270f6f320bdaa98cd35e26e6a65bfb56ac62c629c6df3b7874717a9569f0d5c1", func := "loop.example/g01061/laws.FnExactOldestStack", spec := "fnExactOldestStack", apart := false, narrowed := true }
def FnExactOldestStackUptoSaid : Prop := fnExactOldestStackUptoRow.holds Try.pinned (OpenSpec.upto fnExactOldestStackSpec)

/-- 'laws.FnExactCrackDays', WHERE WHAT IT READS IS OF BULK AT MOST 1048576: true; the input reads as it did. -/
def fnExactCrackDaysUptoRow : OpenClaim := { program := "ytlpjjhjbejjddaa", sum := "270f6f320bdaa98cd35e26e6a65bfb56ac62c629c6df3b7874717a9569f0d5c1", func := "loop.example/g01061/laws.FnExactCrackDays", spec := "fnExactCrackDays", apart := false, narrowed := true }
def FnExactCrackDaysUptoSaid : Prop := fnExactCrackDaysUptoRow.holds Try.pinned (OpenSpec.upto fnExactCrackDaysSpec)

/-- 'laws.FnExactIsChain', WHERE WHAT IT READS IS OF BULK AT MOST 1048576: true; the input reads as it did. -/
def fnExactIsChainUptoRow : OpenClaim := { program := "ytlpjjhjbejjddaa", sum := "270f6f320bdaa98cd35e26e6a65bfb56ac62c629c6df3b7874717a9569f0d5c1", func := "loop.example/g01061/laws.FnExactIsChain", spec := "fnExactIsChain", apart := false, narrowed := true }
def FnExactIsChainUptoSaid : Prop := fnExactIsChainUptoRow.holds Try.pinned (OpenSpec.upto fnExactIsChainSpec)

/-- 'laws.FnExactValidCoats', WHERE WHAT IT READS IS OF BULK AT MOST 1048576: true; the input reads as it did. -/
def fnExactValidCoatsUptoRow : OpenClaim := { program := "ytlpjjhjbejjddaa", sum := "270f6f320bdaa98cd35e26e6a65bfb56ac62c629c6df3b7874717a9569f0d5c1", func := "loop.example/g01061/laws.FnExactValidCoats", spec := "fnExactValidCoats", apart := false, narrowed := true }
def FnExactValidCoatsUptoSaid : Prop := fnExactValidCoatsUptoRow.holds Try.pinned (OpenSpec.upto fnExactValidCoatsSpec)

/-- 'laws.FnExactSpentBy', WHERE WHAT IT READS IS OF BULK AT MOST 1048576: true; the input reads as it did. -/
def fnExactSpentByUptoRow : OpenClaim := { program := "ytlpjjhjbejjddaa", sum := "270f6f320bdaa98cd35e26e6a65bfb56ac62c629c6df3b7874717a9569f0d5c1", func := "loop.example/g01061/laws.FnExactSpentBy", spec := "fnExactSpentBy", unfollowed := true, recurses := true, apart := false, narrowed := true }
def FnExactSpentByUptoSaid : Prop := fnExactSpentByUptoRow.holds Try.pinned (OpenSpec.upto fnExactSpentBySpec)

/-- 'laws.FnExactLastVisit', WHERE WHAT IT READS IS OF BULK AT MOST 1048576: true; the input reads as it did. -/
def fnExactLastVisitUptoRow : OpenClaim := { program := "ytlpjjhjbejjddaa", sum := "270f6f320bdaa98cd35e26e6a65bfb56ac62c629c6df3b7874717a9569f0d5c1", func := "loop.example/g01061/laws.FnExactLastVisit", spec := "fnExactLastVisit", unfollowed := true, recurses := true, apart := false, narrowed := true }
def FnExactLastVisitUptoSaid : Prop := fnExactLastVisitUptoRow.holds Try.pinned (OpenSpec.upto fnExactLastVisitSpec)

/-- 'laws.FnBelief', WHERE WHAT IT READS IS OF BULK AT MOST 1048576: true; the input reads as it did. -/
def fnBeliefUptoRow : OpenClaim := { program := "ytlpjjhjbejjddaa", sum := "270f6f320bdaa98cd35e26e6a65bfb56ac62c629c6df3b7874717a9569f0d5c1", func := "loop.example/g01061/laws.FnBelief", spec := "fnBelief", apart := false, narrowed := true }
def FnBeliefUptoSaid : Prop := fnBeliefUptoRow.holds Try.pinned (OpenSpec.upto fnBeliefSpec)

end Rows
end Go.Proofs.Ytlpjjhjbejjddaa
