/-
  No cell of these rows narrows 'for every input' (looked for: loops, veiled, ifaces, maps, wideKeys, modest, calm, conditions, laid).
  DERIVED. THE GIVEN ROWS OF THIS SEAT. 12 by the template 'for every input the law returns true; each argument reads behind the call as it read before'; 0 by the template 'total and deterministic' (their statements: YtbhiobmkgiokiaaTotals.lean).
  GIVEN WITH THE SEED: the statements are not yours to turn. If you find one false, say at which input.
  Laid BY PROGRAM, IN A SANDBOX (cutbox-rows.mjs): the forced cells as the released guide's own fill.sh prints them over the translation ef2533ab596e2f09… (all of the seat's roots in one cut). By AI agents, Wed Nov 11 2026. No macro, syntax, notation, axiom, sorry.
-/
import Derived.Test.YtbhiobmkgiokiaaChecked
import GoSem.Claim
import GoSem.ClaimJoined
import GoSem.ClaimMapViews
import Derived.JoinedTies
import Derived.KernelRfl
namespace Go.Proofs.Ytbhiobmkgiokiaa
/- THE CELL 'sum', in the pinned program and in every row, IS THE sha256 OF THE DUMP (.gsa) THAT YtbhiobmkgiokiaaProg.lean LOADS. Nothing in Lean hashes anything: it is a label: what it is worth is what the hold of that sum in a sandbox is worth. -/
noncomputable def Try.pinned : Pinned := { name := "ytbhiobmkgiokiaa", sum := "ef2533ab596e2f093300513f1c3f4d5ab019f7fb8355a4779b7cf285dbc7fbac", checked := Try.checked }
namespace Rows
def none {H : Type} : Left H := { results := [], args := [] }

/-- 'laws.FnExactValidPots': WHATEVER THE INPUT: true; the input reads as it did. -/
def fnExactValidPotsSpec : ChangeSpec := { name := "fnExactValidPots", fn := fun _ => fun
  | [d] => { results := [.lit (.bool true)], args := [d] }
  | _ => none }
def fnExactValidPotsRow : OpenClaim := { program := "ytbhiobmkgiokiaa", sum := "ef2533ab596e2f093300513f1c3f4d5ab019f7fb8355a4779b7cf285dbc7fbac", func := "loop.example/g01061/laws.FnExactValidPots", spec := "fnExactValidPots", apart := false }
def FnExactValidPotsSaid : Prop := fnExactValidPotsRow.holds Try.pinned (OpenSpec.ofChange fnExactValidPotsSpec)

/-- ITS FALSE NEIGHBOUR: 'it returns false'. Refute it at one input. -/
def fnExactValidPotsWrong : ChangeSpec := { name := "fnExactValidPots", fn := fun _ => fun
  | [d] => { results := [.lit (.bool false)], args := [d] }
  | _ => none }
def FnExactValidPotsWrongFalsely : Prop := fnExactValidPotsRow.holds Try.pinned (OpenSpec.ofChange fnExactValidPotsWrong)

/-- 'laws.FnExactHoursLeft': WHATEVER THE INPUT: true; the input reads as it did. -/
def fnExactHoursLeftSpec : ChangeSpec := { name := "fnExactHoursLeft", fn := fun _ => fun
  | [d1, d2] => { results := [.lit (.bool true)], args := [d1, d2] }
  | _ => none }
def fnExactHoursLeftRow : OpenClaim := { program := "ytbhiobmkgiokiaa", sum := "ef2533ab596e2f093300513f1c3f4d5ab019f7fb8355a4779b7cf285dbc7fbac", func := "loop.example/g01061/laws.FnExactHoursLeft", spec := "fnExactHoursLeft", apart := false }
def FnExactHoursLeftSaid : Prop := fnExactHoursLeftRow.holds Try.pinned (OpenSpec.ofChange fnExactHoursLeftSpec)

/-- ITS FALSE NEIGHBOUR: 'it returns false'. Refute it at one input. -/
def fnExactHoursLeftWrong : ChangeSpec := { name := "fnExactHoursLeft", fn := fun _ => fun
  | [d1, d2] => { results := [.lit (.bool false)], args := [d1, d2] }
  | _ => none }
def FnExactHoursLeftWrongFalsely : Prop := fnExactHoursLeftRow.holds Try.pinned (OpenSpec.ofChange fnExactHoursLeftWrong)

/-- 'laws.FnExactHeatPot': WHATEVER THE INPUT: true; the input reads as it did. -/
def fnExactHeatPotSpec : ChangeSpec := { name := "fnExactHeatPot", fn := fun _ => fun
  | [d1, d2, d3] => { results := [.lit (.bool true)], args := [d1, d2, d3] }
  | _ => none }
def fnExactHeatPotRow : OpenClaim := { program := "ytbhiobmkgiokiaa", sum := "ef2533ab596e2f093300513f1c3f4d5ab019f7fb8355a4779b7cf285dbc7fbac", func := "loop.example/g01061/laws.FnExactHeatPot", spec := "fnExactHeatPot", apart := false }
def FnExactHeatPotSaid : Prop := fnExactHeatPotRow.holds Try.pinned (OpenSpec.ofChange fnExactHeatPotSpec)

/-- ITS FALSE NEIGHBOUR: 'it returns false'. Refute it at one input. -/
def fnExactHeatPotWrong : ChangeSpec := { name := "fnExactHeatPot", fn := fun _ => fun
  | [d1, d2, d3] => { results := [.lit (.bool false)], args := [d1, d2, d3] }
  | _ => none }
def FnExactHeatPotWrongFalsely : Prop := fnExactHeatPotRow.holds Try.pinned (OpenSpec.ofChange fnExactHeatPotWrong)

/-- 'laws.FnExactTurnFor': WHATEVER THE INPUT: true; the input reads as it did. -/
def fnExactTurnForSpec : ChangeSpec := { name := "fnExactTurnFor", fn := fun _ => fun
  | [d1, d2, d3] => { results := [.lit (.bool true)], args := [d1, d2, d3] }
  | _ => none }
def fnExactTurnForRow : OpenClaim := { program := "ytbhiobmkgiokiaa", sum := "ef2533ab596e2f093300513f1c3f4d5ab019f7fb8355a4779b7cf285dbc7fbac", func := "loop.example/g01061/laws.FnExactTurnFor", spec := "fnExactTurnFor", apart := false }
def FnExactTurnForSaid : Prop := fnExactTurnForRow.holds Try.pinned (OpenSpec.ofChange fnExactTurnForSpec)

/-- ITS FALSE NEIGHBOUR: 'it returns false'. Refute it at one input. -/
def fnExactTurnForWrong : ChangeSpec := { name := "fnExactTurnFor", fn := fun _ => fun
  | [d1, d2, d3] => { results := [.lit (.bool false)], args := [d1, d2, d3] }
  | _ => none }
def FnExactTurnForWrongFalsely : Prop := fnExactTurnForRow.holds Try.pinned (OpenSpec.ofChange fnExactTurnForWrong)

/-- 'laws.FnExactIncomeBetween': WHATEVER THE INPUT: true; the input reads as it did. -/
def fnExactIncomeBetweenSpec : ChangeSpec := { name := "fnExactIncomeBetween", fn := fun _ => fun
  | [d1, d2, d3] => { results := [.lit (.bool true)], args := [d1, d2, d3] }
  | _ => none }
def fnExactIncomeBetweenRow : OpenClaim := { program := "ytbhiobmkgiokiaa", sum := "ef2533ab596e2f093300513f1c3f4d5ab019f7fb8355a4779b7cf285dbc7fbac", func := "loop.example/g01061/laws.FnExactIncomeBetween", spec := "fnExactIncomeBetween", apart := false }
def FnExactIncomeBetweenSaid : Prop := fnExactIncomeBetweenRow.holds Try.pinned (OpenSpec.ofChange fnExactIncomeBetweenSpec)

/-- ITS FALSE NEIGHBOUR: 'it returns false'. Refute it at one input. -/
def fnExactIncomeBetweenWrong : ChangeSpec := { name := "fnExactIncomeBetween", fn := fun _ => fun
  | [d1, d2, d3] => { results := [.lit (.bool false)], args := [d1, d2, d3] }
  | _ => none }
def FnExactIncomeBetweenWrongFalsely : Prop := fnExactIncomeBetweenRow.holds Try.pinned (OpenSpec.ofChange fnExactIncomeBetweenWrong)

/-- 'laws.FnExactStockWorth': WHATEVER THE INPUT: true; the input reads as it did. -/
def fnExactStockWorthSpec : ChangeSpec := { name := "fnExactStockWorth", fn := fun _ => fun
  | [d] => { results := [.lit (.bool true)], args := [d] }
  | _ => none }
def fnExactStockWorthRow : OpenClaim := { program := "ytbhiobmkgiokiaa", sum := "ef2533ab596e2f093300513f1c3f4d5ab019f7fb8355a4779b7cf285dbc7fbac", func := "loop.example/g01061/laws.FnExactStockWorth", spec := "fnExactStockWorth", apart := false }
def FnExactStockWorthSaid : Prop := fnExactStockWorthRow.holds Try.pinned (OpenSpec.ofChange fnExactStockWorthSpec)

/-- ITS FALSE NEIGHBOUR: 'it returns false'. Refute it at one input. -/
def fnExactStockWorthWrong : ChangeSpec := { name := "fnExactStockWorth", fn := fun _ => fun
  | [d] => { results := [.lit (.bool false)], args := [d] }
  | _ => none }
def FnExactStockWorthWrongFalsely : Prop := fnExactStockWorthRow.holds Try.pinned (OpenSpec.ofChange fnExactStockWorthWrong)

/-- 'laws.FnExactYearCost': WHATEVER THE INPUT: true; the input reads as it did. -/
def fnExactYearCostSpec : ChangeSpec := { name := "fnExactYearCost", fn := fun _ => fun
  | [d1, d2] => { results := [.lit (.bool true)], args := [d1, d2] }
  | _ => none }
def fnExactYearCostRow : OpenClaim := { program := "ytbhiobmkgiokiaa", sum := "ef2533ab596e2f093300513f1c3f4d5ab019f7fb8355a4779b7cf285dbc7fbac", func := "loop.example/g01061/laws.FnExactYearCost", spec := "fnExactYearCost", apart := false }
def FnExactYearCostSaid : Prop := fnExactYearCostRow.holds Try.pinned (OpenSpec.ofChange fnExactYearCostSpec)

/-- ITS FALSE NEIGHBOUR: 'it returns false'. Refute it at one input. -/
def fnExactYearCostWrong : ChangeSpec := { name := "fnExactYearCost", fn := fun _ => fun
  | [d1, d2] => { results := [.lit (.bool false)], args := [d1, d2] }
  | _ => none }
def FnExactYearCostWrongFalsely : Prop := fnExactYearCostRow.holds Try.pinned (OpenSpec.ofChange fnExactYearCostWrong)

/-- 'laws.FnExactFlowBetween': WHATEVER THE INPUT: true; the input reads as it did. -/
def fnExactFlowBetweenSpec : ChangeSpec := { name := "fnExactFlowBetween", fn := fun _ => fun
  | [d1, d2, d3] => { results := [.lit (.bool true)], args := [d1, d2, d3] }
  | _ => none }
def fnExactFlowBetweenRow : OpenClaim := { program := "ytbhiobmkgiokiaa", sum := "ef2533ab596e2f093300513f1c3f4d5ab019f7fb8355a4779b7cf285dbc7fbac", func := "loop.example/g01061/laws.FnExactFlowBetween", spec := "fnExactFlowBetween", apart := false }
def FnExactFlowBetweenSaid : Prop := fnExactFlowBetweenRow.holds Try.pinned (OpenSpec.ofChange fnExactFlowBetweenSpec)

/-- ITS FALSE NEIGHBOUR: 'it returns false'. Refute it at one input. -/
def fnExactFlowBetweenWrong : ChangeSpec := { name := "fnExactFlowBetween", fn := fun _ => fun
  | [d1, d2, d3] => { results := [.lit (.bool false)], args := [d1, d2, d3] }
  | _ => none }
def FnExactFlowBetweenWrongFalsely : Prop := fnExactFlowBetweenRow.holds Try.pinned (OpenSpec.ofChange fnExactFlowBetweenWrong)

/-- 'laws.FnExactReversed': WHATEVER THE INPUT: true; the input reads as it did. -/
def fnExactReversedSpec : ChangeSpec := { name := "fnExactReversed", fn := fun _ => fun
  | [d1, d2, d3] => { results := [.lit (.bool true)], args := [d1, d2, d3] }
  | _ => none }
def fnExactReversedRow : OpenClaim := { program := "ytbhiobmkgiokiaa", sum := "ef2533ab596e2f093300513f1c3f4d5ab019f7fb8355a4779b7cf285dbc7fbac", func := "loop.example/g01061/laws.FnExactReversed", spec := "fnExactReversed", apart := false }
def FnExactReversedSaid : Prop := fnExactReversedRow.holds Try.pinned (OpenSpec.ofChange fnExactReversedSpec)

/-- ITS FALSE NEIGHBOUR: 'it returns false'. Refute it at one input. -/
def fnExactReversedWrong : ChangeSpec := { name := "fnExactReversed", fn := fun _ => fun
  | [d1, d2, d3] => { results := [.lit (.bool false)], args := [d1, d2, d3] }
  | _ => none }
def FnExactReversedWrongFalsely : Prop := fnExactReversedRow.holds Try.pinned (OpenSpec.ofChange fnExactReversedWrong)

/-- 'laws.FnExactFirstBelow': WHATEVER THE INPUT: true; the input reads as it did. -/
def fnExactFirstBelowSpec : ChangeSpec := { name := "fnExactFirstBelow", fn := fun _ => fun
  | [d1, d2] => { results := [.lit (.bool true)], args := [d1, d2] }
  | _ => none }
def fnExactFirstBelowRow : OpenClaim := { program := "ytbhiobmkgiokiaa", sum := "ef2533ab596e2f093300513f1c3f4d5ab019f7fb8355a4779b7cf285dbc7fbac", func := "loop.example/g01061/laws.FnExactFirstBelow", spec := "fnExactFirstBelow", apart := false }
def FnExactFirstBelowSaid : Prop := fnExactFirstBelowRow.holds Try.pinned (OpenSpec.ofChange fnExactFirstBelowSpec)

/-- ITS FALSE NEIGHBOUR: 'it returns false'. Refute it at one input. -/
def fnExactFirstBelowWrong : ChangeSpec := { name := "fnExactFirstBelow", fn := fun _ => fun
  | [d1, d2] => { results := [.lit (.bool false)], args := [d1, d2] }
  | _ => none }
def FnExactFirstBelowWrongFalsely : Prop := fnExactFirstBelowRow.holds Try.pinned (OpenSpec.ofChange fnExactFirstBelowWrong)

/-- 'laws.FnExactTotalPrice': WHATEVER THE INPUT: true; the input reads as it did. -/
def fnExactTotalPriceSpec : ChangeSpec := { name := "fnExactTotalPrice", fn := fun _ => fun
  | [d] => { results := [.lit (.bool true)], args := [d] }
  | _ => none }
def fnExactTotalPriceRow : OpenClaim := { program := "ytbhiobmkgiokiaa", sum := "ef2533ab596e2f093300513f1c3f4d5ab019f7fb8355a4779b7cf285dbc7fbac", func := "loop.example/g01061/laws.FnExactTotalPrice", spec := "fnExactTotalPrice", apart := false }
def FnExactTotalPriceSaid : Prop := fnExactTotalPriceRow.holds Try.pinned (OpenSpec.ofChange fnExactTotalPriceSpec)

/-- ITS FALSE NEIGHBOUR: 'it returns false'. Refute it at one input. -/
def fnExactTotalPriceWrong : ChangeSpec := { name := "fnExactTotalPrice", fn := fun _ => fun
  | [d] => { results := [.lit (.bool false)], args := [d] }
  | _ => none }
def FnExactTotalPriceWrongFalsely : Prop := fnExactTotalPriceRow.holds Try.pinned (OpenSpec.ofChange fnExactTotalPriceWrong)

/-- 'laws.FnExactCheapestQuote': WHATEVER THE INPUT: true; the input reads as it did. -/
def fnExactCheapestQuoteSpec : ChangeSpec := { name := "fnExactCheapestQuote", fn := fun _ => fun
  | [d] => { results := [.lit (.bool true)], args := [d] }
  | _ => none }
def fnExactCheapestQuoteRow : OpenClaim := { program := "ytbhiobmkgiokiaa", sum := "ef2533ab596e2f093300513f1c3f4d5ab019f7fb8355a4779b7cf285dbc7fbac", func := "loop.example/g01061/laws.FnExactCheapestQuote", spec := "fnExactCheapestQuote", apart := false }
def FnExactCheapestQuoteSaid : Prop := fnExactCheapestQuoteRow.holds Try.pinned (OpenSpec.ofChange fnExactCheapestQuoteSpec)

/-- ITS FALSE NEIGHBOUR: 'it returns false'. Refute it at one input. -/
def fnExactCheapestQuoteWrong : ChangeSpec := { name := "fnExactCheapestQuote", fn := fun _ => fun
  | [d] => { results := [.lit (.bool false)], args := [d] }
  | _ => none }
def FnExactCheapestQuoteWrongFalsely : Prop := fnExactCheapestQuoteRow.holds Try.pinned (OpenSpec.ofChange fnExactCheapestQuoteWrong)

/- THE SECOND FORM. 'bulk': how many values and letters a reading holds, each counted each time it is reached (what is shared counts as often as it is met; a slice's spare places count too). A statement '..UptoSaid' is the law's where the arguments, and the package variables that the reading takes, are together of bulk at most 1048576: NARROWER than '..Said'. Prove '..Said' where nothing that the law and all that it calls make is longer than what came in: it says more and counts as full. Else prove '..UptoSaid'. A law counts once. -/
mutual
def uptoBulk {H : Type} : DataW H → Nat
  | .lit (.string bytes) => bytes.length + 1
  | .lit _ => 1
  | .nil => 1
  | .ptr d => uptoBulk d + 1
  | .slice elems spare => uptoBulkAll elems + uptoBulkAll spare + 1
  | .agg parts => uptoBulkAll parts + 1
  | .iface _ d => uptoBulk d + 1
  | .map entries => uptoBulkEntries entries + 1
  | .held _ => 1
def uptoBulkAll {H : Type} : List (DataW H) → Nat
  | [] => 0
  | d :: r => uptoBulk d + uptoBulkAll r
def uptoBulkEntries {H : Type} : List (Lit × DataW H) → Nat
  | [] => 0
  | x :: r => uptoBulkEntry x + uptoBulkEntries r
def uptoBulkEntry {H : Type} : Lit × DataW H → Nat
  | (.string bytes, d) => bytes.length + uptoBulk d + 1
  | (_, d) => uptoBulk d + 1
 end
def uptoSmall : (H : Type) → List (DataW H) → Bool := fun _ ds => decide (uptoBulkAll ds ≤ 1048576)
def OpenSpec.upto (s : _root_.Go.ChangeSpec) : _root_.Go.OpenSpec := { _root_.Go.OpenSpec.ofChange s with cond := some uptoSmall }

/-- 'laws.FnExactValidPots', WHERE WHAT IT READS IS OF BULK AT MOST 1048576: true; the input reads as it did. -/
def fnExactValidPotsUptoRow : OpenClaim := { program := "ytbhiobmkgiokiaa", sum := "ef2533ab596e2f093300513f1c3f4d5ab019f7fb8355a4779b7cf285dbc7fbac", func := "loop.example/g01061/laws.FnExactValidPots", spec := "fnExactValidPots", apart := false, narrowed := true }
def FnExactValidPotsUptoSaid : Prop := fnExactValidPotsUptoRow.holds Try.pinned (OpenSpec.upto fnExactValidPotsSpec)

/-- 'laws.FnExactHoursLeft', WHERE WHAT IT READS IS OF BULK AT MOST 1048576: true; the input reads as it did. -/
def fnExactHoursLeftUptoRow : OpenClaim := { program := "ytbhiobmkgiokiaa", sum := "ef2533ab596e2f093300513f1c3f4d5ab019f7fb8355a4779b7cf285dbc7fbac", func := "loop.example/g01061/laws.FnExactHoursLeft", spec := "fnExactHoursLeft", apart := false, narrowed := true }
def FnExactHoursLeftUptoSaid : Prop := fnExactHoursLeftUptoRow.holds Try.pinned (OpenSpec.upto fnExactHoursLeftSpec)

/-- 'laws.FnExactHeatPot', WHERE WHAT IT READS IS OF BULK AT MOST 1048576: true; the input reads as it did. -/
def fnExactHeatPotUptoRow : OpenClaim := { program := "ytbhiobmkgiokiaa", sum := "ef2533ab596e2f093300513f1c3f4d5ab019f7fb8355a4779b7cf285dbc7fbac", func := "loop.example/g01061/laws.FnExactHeatPot", spec := "fnExactHeatPot", apart := false, narrowed := true }
def FnExactHeatPotUptoSaid : Prop := fnExactHeatPotUptoRow.holds Try.pinned (OpenSpec.upto fnExactHeatPotSpec)

/-- 'laws.FnExactTurnFor', WHERE WHAT IT READS IS OF BULK AT MOST 1048576: true; the input reads as it did. -/
def fnExactTurnForUptoRow : OpenClaim := { program := "ytbhiobmkgiokiaa", sum := "ef2533ab596e2f093300513f1c3f4d5ab019f7fb8355a4779b7cf285dbc7fbac", func := "loop.example/g01061/laws.FnExactTurnFor", spec := "fnExactTurnFor", apart := false, narrowed := true }
def FnExactTurnForUptoSaid : Prop := fnExactTurnForUptoRow.holds Try.pinned (OpenSpec.upto fnExactTurnForSpec)

/-- 'laws.FnExactIncomeBetween', WHERE WHAT IT READS IS OF BULK AT MOST 1048576: true; the input reads as it did. -/
def fnExactIncomeBetweenUptoRow : OpenClaim := { program := "ytbhiobmkgiokiaa", sum := "ef2533ab596e2f093300513f1c3f4d5ab019f7fb8355a4779b7cf285dbc7fbac", func := "loop.example/g01061/laws.FnExactIncomeBetween", spec := "fnExactIncomeBetween", apart := false, narrowed := true }
def FnExactIncomeBetweenUptoSaid : Prop := fnExactIncomeBetweenUptoRow.holds Try.pinned (OpenSpec.upto fnExactIncomeBetweenSpec)

/-- 'laws.FnExactStockWorth', WHERE WHAT IT READS IS OF BULK AT MOST 1048576: true; the input reads as it did. -/
def fnExactStockWorthUptoRow : OpenClaim := { program := "ytbhiobmkgiokiaa", sum := "ef2533ab596e2f093300513f1c3f4d5ab019f7fb8355a4779b7cf285dbc7fbac", func := "loop.example/g01061/laws.FnExactStockWorth", spec := "fnExactStockWorth", apart := false, narrowed := true }
def FnExactStockWorthUptoSaid : Prop := fnExactStockWorthUptoRow.holds Try.pinned (OpenSpec.upto fnExactStockWorthSpec)

/-- 'laws.FnExactYearCost', WHERE WHAT IT READS IS OF BULK AT MOST 1048576: true; the input reads as it did. -/
def fnExactYearCostUptoRow : OpenClaim := { program := "ytbhiobmkgiokiaa", sum := "ef2533ab596e2f093300513f1c3f4d5ab019f7fb8355a4779b7cf285dbc7fbac", func := "loop.example/g01061/laws.FnExactYearCost", spec := "fnExactYearCost", apart := false, narrowed := true }
def FnExactYearCostUptoSaid : Prop := fnExactYearCostUptoRow.holds Try.pinned (OpenSpec.upto fnExactYearCostSpec)

/-- 'laws.FnExactFlowBetween', WHERE WHAT IT READS IS OF BULK AT MOST 1048576: true; the input reads as it did. -/
def fnExactFlowBetweenUptoRow : OpenClaim := { program := "ytbhiobmkgiokiaa", sum := "ef2533ab596e2f093300513f1c3f4d5ab019f7fb8355a4779b7cf285dbc7fbac", func := "loop.example/g01061/laws.FnExactFlowBetween", spec := "fnExactFlowBetween", apart := false, narrowed := true }
def FnExactFlowBetweenUptoSaid : Prop := fnExactFlowBetweenUptoRow.holds Try.pinned (OpenSpec.upto fnExactFlowBetweenSpec)

/-- 'laws.FnExactReversed', WHERE WHAT IT READS IS OF BULK AT MOST 1048576: true; the input reads as it did. -/
def fnExactReversedUptoRow : OpenClaim := { program := "ytbhiobmkgiokiaa", sum := "ef2533ab596e2f093300513f1c3f4d5ab019f7fb8355a4779b7cf285dbc7fbac", func := "loop.example/g01061/laws.FnExactReversed", spec := "fnExactReversed", apart := false, narrowed := true }
def FnExactReversedUptoSaid : Prop := fnExactReversedUptoRow.holds Try.pinned (OpenSpec.upto fnExactReversedSpec)

/-- 'laws.FnExactFirstBelow', WHERE WHAT IT READS IS OF BULK AT MOST 1048576: true; the input reads as it did. -/
def fnExactFirstBelowUptoRow : OpenClaim := { program := "ytbhiobmkgiokiaa", sum := "ef2533ab596e2f093300513f1c3f4d5ab019f7fb8355a4779b7cf285dbc7fbac", func := "loop.example/g01061/laws.FnExactFirstBelow", spec := "fnExactFirstBelow", apart := false, narrowed := true }
def FnExactFirstBelowUptoSaid : Prop := fnExactFirstBelowUptoRow.holds Try.pinned (OpenSpec.upto fnExactFirstBelowSpec)

/-- 'laws.FnExactTotalPrice', WHERE WHAT IT READS IS OF BULK AT MOST 1048576: true; the input reads as it did. -/
def fnExactTotalPriceUptoRow : OpenClaim := { program := "ytbhiobmkgiokiaa", sum := "ef2533ab596e2f093300513f1c3f4d5ab019f7fb8355a4779b7cf285dbc7fbac", func := "loop.example/g01061/laws.FnExactTotalPrice", spec := "fnExactTotalPrice", apart := false, narrowed := true }
def FnExactTotalPriceUptoSaid : Prop := fnExactTotalPriceUptoRow.holds Try.pinned (OpenSpec.upto fnExactTotalPriceSpec)

/-- 'laws.FnExactCheapestQuote', WHERE WHAT IT READS IS OF BULK AT MOST 1048576: true; the input reads as it did. -/
def fnExactCheapestQuoteUptoRow : OpenClaim := { program := "ytbhiobmkgiokiaa", sum := "ef2533ab596e2f093300513f1c3f4d5ab019f7fb8355a4779b7cf285dbc7fbac", func := "loop.example/g01061/laws.FnExactCheapestQuote", spec := "fnExactCheapestQuote", apart := false, narrowed := true }
def FnExactCheapestQuoteUptoSaid : Prop := fnExactCheapestQuoteUptoRow.holds Try.pinned (OpenSpec.upto fnExactCheapestQuoteSpec)

end Rows
end Go.Proofs.Ytbhiobmkgiokiaa
