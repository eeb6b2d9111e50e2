/-
  No cell of these rows narrows 'for every input' (looked for: loops, veiled, ifaces, maps, wideKeys, modest, calm, conditions, laid).
  DERIVED. THE GIVEN ROWS OF THIS SEAT. 11 by the template 'for every input the law returns true; each argument reads behind the call as it read before'; 0 by the template 'total and deterministic' (their statements: YtllmillhdmknpaaTotals.lean).
  GIVEN WITH THE SEED: the statements are not yours to turn. If you find one false, say at which input.
  Laid BY PROGRAM, IN A SANDBOX (cutbox-rows.mjs): the forced cells as the released guide's own fill.sh prints them over the translation 345a0de61e67395a… (all of the seat's roots in one cut). By AI agents, Wed Nov 11 2026. No macro, syntax, notation, axiom, sorry.
-/
import Derived.Test.YtllmillhdmknpaaChecked
import GoSem.Claim
import GoSem.ClaimJoined
import GoSem.ClaimMapViews
import Derived.JoinedTies
import Derived.KernelRfl
namespace Go.Proofs.Ytllmillhdmknpaa
/- THE CELL 'sum', in the pinned program and in every row, IS THE sha256 OF THE DUMP (.gsa) THAT YtllmillhdmknpaaProg.lean LOADS. Nothing in Lean hashes anything: it is a label: what it is worth is what the hold of that sum in a sandbox is worth. -/
noncomputable def Try.pinned : Pinned := { name := "ytllmillhdmknpaa", sum := "345a0de61e67395aa21ef96bb1ed1d2beb2ec3e70f168e240b7459262e906349", checked := Try.checked }
namespace Rows
def none {H : Type} : Left H := { results := [], args := [] }

/-- 'laws.FnExactHoursLeft': WHATEVER THE INPUT: true; the input reads as it did. -/
def fnExactHoursLeftSpec : ChangeSpec := { name := "fnExactHoursLeft", fn := fun _ => fun
  | [d1, d2] => { results := [.lit (.bool true)], args := [d1, d2] }
  | _ => none }
def fnExactHoursLeftRow : OpenClaim := { program := "ytllmillhdmknpaa", sum := "345a0de61e67395aa21ef96bb1ed1d2beb2ec3e70f168e240b7459262e906349", func := "loop.example/g01061/laws.FnExactHoursLeft", spec := "fnExactHoursLeft", apart := false }
def FnExactHoursLeftSaid : Prop := fnExactHoursLeftRow.holds Try.pinned (OpenSpec.ofChange fnExactHoursLeftSpec)

/-- ITS FALSE NEIGHBOUR: 'it returns false'. Refute it at one input. -/
def fnExactHoursLeftWrong : ChangeSpec := { name := "fnExactHoursLeft", fn := fun _ => fun
  | [d1, d2] => { results := [.lit (.bool false)], args := [d1, d2] }
  | _ => none }
def FnExactHoursLeftWrongFalsely : Prop := fnExactHoursLeftRow.holds Try.pinned (OpenSpec.ofChange fnExactHoursLeftWrong)

/-- 'laws.FnExactHeatPot': WHATEVER THE INPUT: true; the input reads as it did. -/
def fnExactHeatPotSpec : ChangeSpec := { name := "fnExactHeatPot", fn := fun _ => fun
  | [d1, d2, d3] => { results := [.lit (.bool true)], args := [d1, d2, d3] }
  | _ => none }
def fnExactHeatPotRow : OpenClaim := { program := "ytllmillhdmknpaa", sum := "345a0de61e67395aa21ef96bb1ed1d2beb2ec3e70f168e240b7459262e906349", func := "loop.example/g01061/laws.FnExactHeatPot", spec := "fnExactHeatPot", apart := false }
def FnExactHeatPotSaid : Prop := fnExactHeatPotRow.holds Try.pinned (OpenSpec.ofChange fnExactHeatPotSpec)

/-- ITS FALSE NEIGHBOUR: 'it returns false'. Refute it at one input. -/
def fnExactHeatPotWrong : ChangeSpec := { name := "fnExactHeatPot", fn := fun _ => fun
  | [d1, d2, d3] => { results := [.lit (.bool false)], args := [d1, d2, d3] }
  | _ => none }
def FnExactHeatPotWrongFalsely : Prop := fnExactHeatPotRow.holds Try.pinned (OpenSpec.ofChange fnExactHeatPotWrong)

/-- 'laws.FnBelief': WHATEVER THE INPUT: true; the input reads as it did. -/
def fnBeliefSpec : ChangeSpec := { name := "fnBelief", fn := fun _ => fun
  | [d1, d2] => { results := [.lit (.bool true)], args := [d1, d2] }
  | _ => none }
def fnBeliefRow : OpenClaim := { program := "ytllmillhdmknpaa", sum := "345a0de61e67395aa21ef96bb1ed1d2beb2ec3e70f168e240b7459262e906349", func := "loop.example/g01061/laws.FnBelief", spec := "fnBelief", apart := false }
def FnBeliefSaid : Prop := fnBeliefRow.holds Try.pinned (OpenSpec.ofChange fnBeliefSpec)

/-- ITS FALSE NEIGHBOUR: 'it returns false'. Refute it at one input. -/
def fnBeliefWrong : ChangeSpec := { name := "fnBelief", fn := fun _ => fun
  | [d1, d2] => { results := [.lit (.bool false)], args := [d1, d2] }
  | _ => none }
def FnBeliefWrongFalsely : Prop := fnBeliefRow.holds Try.pinned (OpenSpec.ofChange fnBeliefWrong)

/-- 'laws.FnExactReversed': WHATEVER THE INPUT: true; the input reads as it did. -/
def fnExactReversedSpec : ChangeSpec := { name := "fnExactReversed", fn := fun _ => fun
  | [d1, d2, d3] => { results := [.lit (.bool true)], args := [d1, d2, d3] }
  | _ => none }
def fnExactReversedRow : OpenClaim := { program := "ytllmillhdmknpaa", sum := "345a0de61e67395aa21ef96bb1ed1d2beb2ec3e70f168e240b7459262e906349", func := "loop.example/g01061/laws.FnExactReversed", spec := "fnExactReversed", apart := false }
def FnExactReversedSaid : Prop := fnExactReversedRow.holds Try.pinned (OpenSpec.ofChange fnExactReversedSpec)

/-- ITS FALSE NEIGHBOUR: 'it returns false'. Refute it at one input. -/
def fnExactReversedWrong : ChangeSpec := { name := "fnExactReversed", fn := fun _ => fun
  | [d1, d2, d3] => { results := [.lit (.bool false)], args := [d1, d2, d3] }
  | _ => none }
def FnExactReversedWrongFalsely : Prop := fnExactReversedRow.holds Try.pinned (OpenSpec.ofChange fnExactReversedWrong)

/-- 'laws.FnExactValidCoats': WHATEVER THE INPUT: true; the input reads as it did. -/
def fnExactValidCoatsSpec : ChangeSpec := { name := "fnExactValidCoats", fn := fun _ => fun
  | [d] => { results := [.lit (.bool true)], args := [d] }
  | _ => none }
def fnExactValidCoatsRow : OpenClaim := { program := "ytllmillhdmknpaa", sum := "345a0de61e67395aa21ef96bb1ed1d2beb2ec3e70f168e240b7459262e906349", func := "loop.example/g01061/laws.FnExactValidCoats", spec := "fnExactValidCoats", apart := false }
def FnExactValidCoatsSaid : Prop := fnExactValidCoatsRow.holds Try.pinned (OpenSpec.ofChange fnExactValidCoatsSpec)

/-- ITS FALSE NEIGHBOUR: 'it returns false'. Refute it at one input. -/
def fnExactValidCoatsWrong : ChangeSpec := { name := "fnExactValidCoats", fn := fun _ => fun
  | [d] => { results := [.lit (.bool false)], args := [d] }
  | _ => none }
def FnExactValidCoatsWrongFalsely : Prop := fnExactValidCoatsRow.holds Try.pinned (OpenSpec.ofChange fnExactValidCoatsWrong)

/-- 'laws.FnExactValidSteps': WHATEVER THE INPUT: true; the input reads as it did. -/
def fnExactValidStepsSpec : ChangeSpec := { name := "fnExactValidSteps", fn := fun _ => fun
  | [d] => { results := [.lit (.bool true)], args := [d] }
  | _ => none }
def fnExactValidStepsRow : OpenClaim := { program := "ytllmillhdmknpaa", sum := "345a0de61e67395aa21ef96bb1ed1d2beb2ec3e70f168e240b7459262e906349", func := "loop.example/g01061/laws.FnExactValidSteps", spec := "fnExactValidSteps", apart := false }
def FnExactValidStepsSaid : Prop := fnExactValidStepsRow.holds Try.pinned (OpenSpec.ofChange fnExactValidStepsSpec)

/-- ITS FALSE NEIGHBOUR: 'it returns false'. Refute it at one input. -/
def fnExactValidStepsWrong : ChangeSpec := { name := "fnExactValidSteps", fn := fun _ => fun
  | [d] => { results := [.lit (.bool false)], args := [d] }
  | _ => none }
def FnExactValidStepsWrongFalsely : Prop := fnExactValidStepsRow.holds Try.pinned (OpenSpec.ofChange fnExactValidStepsWrong)

/-- 'laws.FnExactSameHistory': WHATEVER THE INPUT: true; the input reads as it did. -/
def fnExactSameHistorySpec : ChangeSpec := { name := "fnExactSameHistory", fn := fun _ => fun
  | [d1, d2] => { results := [.lit (.bool true)], args := [d1, d2] }
  | _ => none }
def fnExactSameHistoryRow : OpenClaim := { program := "ytllmillhdmknpaa", sum := "345a0de61e67395aa21ef96bb1ed1d2beb2ec3e70f168e240b7459262e906349", func := "loop.example/g01061/laws.FnExactSameHistory", spec := "fnExactSameHistory", unfollowed := true, recurses := true, apart := false }
def FnExactSameHistorySaid : Prop := fnExactSameHistoryRow.holds Try.pinned (OpenSpec.ofChange fnExactSameHistorySpec)

/-- ITS FALSE NEIGHBOUR: 'it returns false'. Refute it at one input. -/
def fnExactSameHistoryWrong : ChangeSpec := { name := "fnExactSameHistory", fn := fun _ => fun
  | [d1, d2] => { results := [.lit (.bool false)], args := [d1, d2] }
  | _ => none }
def FnExactSameHistoryWrongFalsely : Prop := fnExactSameHistoryRow.holds Try.pinned (OpenSpec.ofChange fnExactSameHistoryWrong)

/-- 'laws.FnExactSpentBy': WHATEVER THE INPUT: true; the input reads as it did. -/
def fnExactSpentBySpec : ChangeSpec := { name := "fnExactSpentBy", fn := fun _ => fun
  | [d1, d2] => { results := [.lit (.bool true)], args := [d1, d2] }
  | _ => none }
def fnExactSpentByRow : OpenClaim := { program := "ytllmillhdmknpaa", sum := "345a0de61e67395aa21ef96bb1ed1d2beb2ec3e70f168e240b7459262e906349", func := "loop.example/g01061/laws.FnExactSpentBy", spec := "fnExactSpentBy", unfollowed := true, recurses := true, apart := false }
def FnExactSpentBySaid : Prop := fnExactSpentByRow.holds Try.pinned (OpenSpec.ofChange fnExactSpentBySpec)

/-- ITS FALSE NEIGHBOUR: 'it returns false'. Refute it at one input. -/
def fnExactSpentByWrong : ChangeSpec := { name := "fnExactSpentBy", fn := fun _ => fun
  | [d1, d2] => { results := [.lit (.bool false)], args := [d1, d2] }
  | _ => none }
def FnExactSpentByWrongFalsely : Prop := fnExactSpentByRow.holds Try.pinned (OpenSpec.ofChange fnExactSpentByWrong)

/-- 'laws.FnBuilds': WHATEVER THE INPUT: true; the input reads as it did. -/
def fnBuildsSpec : ChangeSpec := { name := "fnBuilds", fn := fun _ => fun
  | [d1, d2] => { results := [.lit (.bool true)], args := [d1, d2] }
  | _ => none }
def fnBuildsRow : OpenClaim := { program := "ytllmillhdmknpaa", sum := "345a0de61e67395aa21ef96bb1ed1d2beb2ec3e70f168e240b7459262e906349", func := "loop.example/g01061/laws.FnBuilds", spec := "fnBuilds", unfollowed := true, recurses := true, apart := false }
def FnBuildsSaid : Prop := fnBuildsRow.holds Try.pinned (OpenSpec.ofChange fnBuildsSpec)

/-- ITS FALSE NEIGHBOUR: 'it returns false'. Refute it at one input. -/
def fnBuildsWrong : ChangeSpec := { name := "fnBuilds", fn := fun _ => fun
  | [d1, d2] => { results := [.lit (.bool false)], args := [d1, d2] }
  | _ => none }
def FnBuildsWrongFalsely : Prop := fnBuildsRow.holds Try.pinned (OpenSpec.ofChange fnBuildsWrong)

/-- 'laws.FnExactLastVisit': WHATEVER THE INPUT: true; the input reads as it did. -/
def fnExactLastVisitSpec : ChangeSpec := { name := "fnExactLastVisit", fn := fun _ => fun
  | [d1, d2] => { results := [.lit (.bool true)], args := [d1, d2] }
  | _ => none }
def fnExactLastVisitRow : OpenClaim := { program := "ytllmillhdmknpaa", sum := "345a0de61e67395aa21ef96bb1ed1d2beb2ec3e70f168e240b7459262e906349", func := "loop.example/g01061/laws.FnExactLastVisit", spec := "fnExactLastVisit", unfollowed := true, recurses := true, apart := false }
def FnExactLastVisitSaid : Prop := fnExactLastVisitRow.holds Try.pinned (OpenSpec.ofChange fnExactLastVisitSpec)

/-- ITS FALSE NEIGHBOUR: 'it returns false'. Refute it at one input. -/
def fnExactLastVisitWrong : ChangeSpec := { name := "fnExactLastVisit", fn := fun _ => fun
  | [d1, d2] => { results := [.lit (.bool false)], args := [d1, d2] }
  | _ => none }
def FnExactLastVisitWrongFalsely : Prop := fnExactLastVisitRow.holds Try.pinned (OpenSpec.ofChange fnExactLastVisitWrong)

/-- 'laws.FnExactBestShare': WHATEVER THE INPUT: true; the input reads as it did. -/
def fnExactBestShareSpec : ChangeSpec := { name := "fnExactBestShare", fn := fun _ => fun
  | [d1, d2] => { results := [.lit (.bool true)], args := [d1, d2] }
  | _ => none }
def fnExactBestShareRow : OpenClaim := { program := "ytllmillhdmknpaa", sum := "345a0de61e67395aa21ef96bb1ed1d2beb2ec3e70f168e240b7459262e906349", func := "loop.example/g01061/laws.FnExactBestShare", spec := "fnExactBestShare", unfollowed := true, recurses := true, apart := false }
def FnExactBestShareSaid : Prop := fnExactBestShareRow.holds Try.pinned (OpenSpec.ofChange fnExactBestShareSpec)

/-- ITS FALSE NEIGHBOUR: 'it returns false'. Refute it at one input. -/
def fnExactBestShareWrong : ChangeSpec := { name := "fnExactBestShare", fn := fun _ => fun
  | [d1, d2] => { results := [.lit (.bool false)], args := [d1, d2] }
  | _ => none }
def FnExactBestShareWrongFalsely : Prop := fnExactBestShareRow.holds Try.pinned (OpenSpec.ofChange fnExactBestShareWrong)

/- THE SECOND FORM. 'bulk': how many values and letters a reading holds, each counted each time it is reached (what is shared counts as often as it is met; a slice's spare places count too). A statement '..UptoSaid' is the law's where the arguments, and the package variables that the reading takes, are together of bulk at most 1048576: NARROWER than '..Said'. Prove '..Said' where nothing that the law and all that it calls make is longer than what came in: it says more and counts as full. Else prove '..UptoSaid'. A law counts once. -/
mutual
def uptoBulk {H : Type} : DataW H → Nat
  | .lit (.string bytes) => bytes.length + 1
  | .lit _ => 1
  | .nil => 1
  | .ptr d => uptoBulk d + 1
  | .slice elems spare => uptoBulkAll elems + uptoBulkAll spare + 1
  | .agg parts => uptoBulkAll parts + 1
  | .iface _ d => uptoBulk d + 1
  | .map entries => uptoBulkEntries entries + 1
  | .held _ => 1
def uptoBulkAll {H : Type} : List (DataW H) → Nat
  | [] => 0
  | d :: r => uptoBulk d + uptoBulkAll r
def uptoBulkEntries {H : Type} : List (Lit × DataW H) → Nat
  | [] => 0
  | x :: r => uptoBulkEntry x + uptoBulkEntries r
def uptoBulkEntry {H : Type} : Lit × DataW H → Nat
  | (.string bytes, d) => bytes.length + uptoBulk d + 1
  | (_, d) => uptoBulk d + 1
 end
def uptoSmall : (H : Type) → List (DataW H) → Bool := fun _ ds => decide (uptoBulkAll ds ≤ 1048576)
def OpenSpec.upto (s : _root_.Go.ChangeSpec) : _root_.Go.OpenSpec := { _root_.Go.OpenSpec.ofChange s with cond := some uptoSmall }

/-- 'laws.FnExactHoursLeft', WHERE WHAT IT READS IS OF BULK AT MOST 1048576: true; the input reads as it did. -/
def fnExactHoursLeftUptoRow : OpenClaim := { program := "ytllmillhdmknpaa", sum := "345a0de61e67395aa21ef96bb1ed1d2beb2ec3e70f168e240b7459262e906349", func := "loop.example/g01061/laws.FnExactHoursLeft", spec := "fnExactHoursLeft", apart := false, narrowed := true }
def FnExactHoursLeftUptoSaid : Prop := fnExactHoursLeftUptoRow.holds Try.pinned (OpenSpec.upto fnExactHoursLeftSpec)

/-- 'laws.FnExactHeatPot', WHERE WHAT IT READS IS OF BULK AT MOST 1048576: true; the input reads as it did. -/
def fnExactHeatPotUptoRow : OpenClaim := { program := "ytllmillhdmknpaa", sum := "345a0de61e67395aa21ef96bb1ed1d2beb2ec3e70f168e240b7459262e906349", func := "loop.example/g01061/laws.FnExactHeatPot", spec := "fnExactHeatPot", apart := false, narrowed := true }
def FnExactHeatPotUptoSaid : Prop := fnExactHeatPotUptoRow.holds Try.pinned (OpenSpec.upto fnExactHeatPotSpec)

/-- 'laws.FnBelief', WHERE WHAT IT READS IS OF BULK AT MOST 1048576: true; the input reads as it did. -/
def fnBeliefUptoRow : OpenClaim := { program := "ytllmillhdmknpaa", sum := "345a0de61e67395aa21ef96bb1ed1d2beb2ec3e70f168e240b7459262e906349", func := "loop.example/g01061/laws.FnBelief", spec := "fnBelief", apart := false, narrowed := true }
def FnBeliefUptoSaid : Prop := fnBeliefUptoRow.holds Try.pinned (OpenSpec.upto fnBeliefSpec)

/-- 'laws.FnExactReversed', WHERE WHAT IT READS IS OF BULK AT MOST 1048576: true; the input reads as it did. -/
def fnExactReversedUptoRow : OpenClaim := { program := "ytllmillhdmknpaa", sum := "345a0de61e67395aa21ef96bb1ed1d2beb2ec3e70f168e240b7459262e906349", func := "loop.example/g01061/laws.FnExactReversed", spec := "fnExactReversed", apart := false, narrowed := true }
def FnExactReversedUptoSaid : Prop := fnExactReversedUptoRow.holds Try.pinned (OpenSpec.upto fnExactReversedSpec)

/-- 'laws.FnExactValidCoats', WHERE WHAT IT READS IS OF BULK AT MOST 1048576: true; the input reads as it did. -/
def fnExactValidCoatsUptoRow : OpenClaim := { program := "ytllmillhdmknpaa", sum := "345a0de61e67395aa21ef96bb1ed1d2beb2ec3e70f168e240b7459262e906349", func := "loop.example/g01061/laws.FnExactValidCoats", spec := "fnExactValidCoats", apart := false, narrowed := true }
def FnExactValidCoatsUptoSaid : Prop := fnExactValidCoatsUptoRow.holds Try.pinned (OpenSpec.upto fnExactValidCoatsSpec)

/-- 'laws.FnExactValidSteps', WHERE WHAT IT READS IS OF BULK AT MOST 1048576: true; the input reads as it did. -/
def fnExactValidStepsUptoRow : OpenClaim := { program := "ytllmillhdmknpaa", sum := "345a0de61e67395aa21ef96bb1ed1d2beb2ec3e70f168e240b7459262e906349", func := "loop.example/g01061/laws.FnExactValidSteps", spec := "fnExactValidSteps", apart := false, narrowed := true }
def FnExactValidStepsUptoSaid : Prop := fnExactValidStepsUptoRow.holds Try.pinned (OpenSpec.upto fnExactValidStepsSpec)

/-- 'laws.FnExactSameHistory', WHERE WHAT IT READS IS OF BULK AT MOST 1048576: true; the input reads as it did. -/
def fnExactSameHistoryUptoRow : OpenClaim := { program := "ytllmillhdmknpaa", sum := "345a0de61e67395aa21ef96bb1ed1d2beb2ec3e70f168e240b7459262e906349", func := "loop.example/g01061/laws.FnExactSameHistory", spec := "fnExactSameHistory", unfollowed := true, recurses := true, apart := false, narrowed := true }
def FnExactSameHistoryUptoSaid : Prop := fnExactSameHistoryUptoRow.holds Try.pinned (OpenSpec.upto fnExactSameHistorySpec)

/-- 'laws.FnExactSpentBy', WHERE WHAT IT READS IS OF BULK AT MOST 1048576: true; the input reads as it did. -/
def fnExactSpentByUptoRow : OpenClaim := { program := "ytllmillhdmknpaa", sum := "345a0de61e67395aa21ef96bb1ed1d2beb2ec3e70f168e240b7459262e906349", func := "loop.example/g01061/laws.FnExactSpentBy", spec := "fnExactSpentBy", unfollowed := true, recurses := true, apart := false, narrowed := true }
def FnExactSpentByUptoSaid : Prop := fnExactSpentByUptoRow.holds Try.pinned (OpenSpec.upto fnExactSpentBySpec)

/-- 'laws.FnBuilds', WHERE WHAT IT READS IS OF BULK AT MOST 1048576: true; the input reads as it did. -/
def fnBuildsUptoRow : OpenClaim := { program := "ytllmillhdmknpaa", sum := "345a0de61e67395aa21ef96bb1ed1d2beb2ec3e70f168e240b7459262e906349", func := "loop.example/g01061/laws.FnBuilds", spec := "fnBuilds", unfollowed := true, recurses := true, apart := false, narrowed := true }
def FnBuildsUptoSaid : Prop := fnBuildsUptoRow.holds Try.pinned (OpenSpec.upto fnBuildsSpec)

/-- 'laws.FnExactLastVisit', WHERE WHAT IT READS IS OF BULK AT MOST 1048576: true; the input reads as it did. -/
def fnExactLastVisitUptoRow : OpenClaim := { program := "ytllmillhdmknpaa", sum := "345a0de61e67395aa21ef96bb1ed1d2beb2ec3e70f168e240b7459262e906349", func := "loop.example/g01061/laws.FnExactLastVisit", spec := "fnExactLastVisit", unfollowed := true, recurses := true, apart := false, narrowed := true }
def FnExactLastVisitUptoSaid : Prop := fnExactLastVisitUptoRow.holds Try.pinned (OpenSpec.upto fnExactLastVisitSpec)

/-- 'laws.FnExactBestShare', WHERE WHAT IT READS IS OF BULK AT MOST 1048576: true; the input reads as it did. -/
def fnExactBestShareUptoRow : OpenClaim := { program := "ytllmillhdmknpaa", sum := "345a0de61e67395aa21ef96bb1ed1d2beb2ec3e70f168e240b7459262e906349", func := "loop.example/g01061/laws.FnExactBestShare", spec := "fnExactBestShare", unfollowed := true, recurses := true, apart := false, narrowed := true }
def FnExactBestShareUptoSaid : Prop := fnExactBestShareUptoRow.holds Try.pinned (OpenSpec.upto fnExactBestShareSpec)

end Rows
end Go.Proofs.Ytllmillhdmknpaa
