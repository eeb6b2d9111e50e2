/-
  No cell of these rows narrows 'for every input' (looked for: loops, veiled, ifaces, maps, wideKeys, modest, calm, conditions, laid).
  DERIVED. THE GIVEN ROWS OF THIS SEAT. 12 by the template 'for every input the law returns true; each argument reads behind the call as it read before'; 0 by the template 'total and deterministic' (their statements: YtkoijgeacekeaaaTotals.lean).
  GIVEN WITH THE SEED: the statements are not yours to turn. If you find one false, say at which input.
  Laid BY PROGRAM, IN A SANDBOX (cutbox-rows.mjs): the forced cells as the released guide's own fill.sh prints them over the translation 233d1972af3ef6e0… (all of the seat's roots in one cut). By AI agents, Wed Nov 11 2026. No macro, syntax, notation, axiom, sorry.
-/
import Derived.Test.YtkoijgeacekeaaaChecked
import GoSem.Claim
import GoSem.ClaimJoined
import GoSem.ClaimMapViews
import Derived.JoinedTies
import Derived.KernelRfl
namespace Go.Proofs.Ytkoijgeacekeaaa
/- THE CELL 'sum', in the pinned program and in every row, IS THE sha256 OF THE DUMP (.gsa) THAT YtkoijgeacekeaaaProg.lean LOADS. Nothing in Lean hashes anything: it is a label: what it is worth is what the hold of that sum in a sandbox is worth. -/
noncomputable def Try.pinned : Pinned := { name := "ytkoijgeacekeaaa", sum := "233d1972af3ef6e0dda8247fd385a2d8f05f651b0ba1147482bd764304829a4d", checked := Try.checked }
namespace Rows
def none {H : Type} : Left H := { results := [], args := [] }

/-- 'laws.FnExactWorstPaper': WHATEVER THE INPUT: true; the input reads as it did. -/
def fnExactWorstPaperSpec : ChangeSpec := { name := "fnExactWorstPaper", fn := fun _ => fun
  | [d] => { results := [.lit (.bool true)], args := [d] }
  | _ => none }
def fnExactWorstPaperRow : OpenClaim := { program := "ytkoijgeacekeaaa", sum := "233d1972af3ef6e0dda8247fd385a2d8f05f651b0ba1147482bd764304829a4d", func := "loop.example/g01061/laws.FnExactWorstPaper", spec := "fnExactWorstPaper", apart := false }
def FnExactWorstPaperSaid : Prop := fnExactWorstPaperRow.holds Try.pinned (OpenSpec.ofChange fnExactWorstPaperSpec)

/-- ITS FALSE NEIGHBOUR: 'it returns false'. Refute it at one input. -/
def fnExactWorstPaperWrong : ChangeSpec := { name := "fnExactWorstPaper", fn := fun _ => fun
  | [d] => { results := [.lit (.bool false)], args := [d] }
  | _ => none }
def FnExactWorstPaperWrongFalsely : Prop := fnExactWorstPaperRow.holds Try.pinned (OpenSpec.ofChange fnExactWorstPaperWrong)

/-- 'laws.FnExactValidPapers': WHATEVER THE INPUT: true; the input reads as it did. -/
def fnExactValidPapersSpec : ChangeSpec := { name := "fnExactValidPapers", fn := fun _ => fun
  | [d] => { results := [.lit (.bool true)], args := [d] }
  | _ => none }
def fnExactValidPapersRow : OpenClaim := { program := "ytkoijgeacekeaaa", sum := "233d1972af3ef6e0dda8247fd385a2d8f05f651b0ba1147482bd764304829a4d", func := "loop.example/g01061/laws.FnExactValidPapers", spec := "fnExactValidPapers", apart := false }
def FnExactValidPapersSaid : Prop := fnExactValidPapersRow.holds Try.pinned (OpenSpec.ofChange fnExactValidPapersSpec)

/-- ITS FALSE NEIGHBOUR: 'it returns false'. Refute it at one input. -/
def fnExactValidPapersWrong : ChangeSpec := { name := "fnExactValidPapers", fn := fun _ => fun
  | [d] => { results := [.lit (.bool false)], args := [d] }
  | _ => none }
def FnExactValidPapersWrongFalsely : Prop := fnExactValidPapersRow.holds Try.pinned (OpenSpec.ofChange fnExactValidPapersWrong)

/-- 'laws.FnExactYearTrust': WHATEVER THE INPUT: true; the input reads as it did. -/
def fnExactYearTrustSpec : ChangeSpec := { name := "fnExactYearTrust", fn := fun _ => fun
  | [d1, d2] => { results := [.lit (.bool true)], args := [d1, d2] }
  | _ => none }
def fnExactYearTrustRow : OpenClaim := { program := "ytkoijgeacekeaaa", sum := "233d1972af3ef6e0dda8247fd385a2d8f05f651b0ba1147482bd764304829a4d", func := "loop.example/g01061/laws.FnExactYearTrust", spec := "fnExactYearTrust", apart := false }
def FnExactYearTrustSaid : Prop := fnExactYearTrustRow.holds Try.pinned (OpenSpec.ofChange fnExactYearTrustSpec)

/-- ITS FALSE NEIGHBOUR: 'it returns false'. Refute it at one input. -/
def fnExactYearTrustWrong : ChangeSpec := { name := "fnExactYearTrust", fn := fun _ => fun
  | [d1, d2] => { results := [.lit (.bool false)], args := [d1, d2] }
  | _ => none }
def FnExactYearTrustWrongFalsely : Prop := fnExactYearTrustRow.holds Try.pinned (OpenSpec.ofChange fnExactYearTrustWrong)

/-- 'laws.FnExactBestYear': WHATEVER THE INPUT: true; the input reads as it did. -/
def fnExactBestYearSpec : ChangeSpec := { name := "fnExactBestYear", fn := fun _ => fun
  | [d] => { results := [.lit (.bool true)], args := [d] }
  | _ => none }
def fnExactBestYearRow : OpenClaim := { program := "ytkoijgeacekeaaa", sum := "233d1972af3ef6e0dda8247fd385a2d8f05f651b0ba1147482bd764304829a4d", func := "loop.example/g01061/laws.FnExactBestYear", spec := "fnExactBestYear", apart := false }
def FnExactBestYearSaid : Prop := fnExactBestYearRow.holds Try.pinned (OpenSpec.ofChange fnExactBestYearSpec)

/-- ITS FALSE NEIGHBOUR: 'it returns false'. Refute it at one input. -/
def fnExactBestYearWrong : ChangeSpec := { name := "fnExactBestYear", fn := fun _ => fun
  | [d] => { results := [.lit (.bool false)], args := [d] }
  | _ => none }
def FnExactBestYearWrongFalsely : Prop := fnExactBestYearRow.holds Try.pinned (OpenSpec.ofChange fnExactBestYearWrong)

/-- 'laws.FnExactHeaviestPart': WHATEVER THE INPUT: true; the input reads as it did. -/
def fnExactHeaviestPartSpec : ChangeSpec := { name := "fnExactHeaviestPart", fn := fun _ => fun
  | [d] => { results := [.lit (.bool true)], args := [d] }
  | _ => none }
def fnExactHeaviestPartRow : OpenClaim := { program := "ytkoijgeacekeaaa", sum := "233d1972af3ef6e0dda8247fd385a2d8f05f651b0ba1147482bd764304829a4d", func := "loop.example/g01061/laws.FnExactHeaviestPart", spec := "fnExactHeaviestPart", apart := false }
def FnExactHeaviestPartSaid : Prop := fnExactHeaviestPartRow.holds Try.pinned (OpenSpec.ofChange fnExactHeaviestPartSpec)

/-- ITS FALSE NEIGHBOUR: 'it returns false'. Refute it at one input. -/
def fnExactHeaviestPartWrong : ChangeSpec := { name := "fnExactHeaviestPart", fn := fun _ => fun
  | [d] => { results := [.lit (.bool false)], args := [d] }
  | _ => none }
def FnExactHeaviestPartWrongFalsely : Prop := fnExactHeaviestPartRow.holds Try.pinned (OpenSpec.ofChange fnExactHeaviestPartWrong)

/-- 'laws.FnExactInertiaOf': WHATEVER THE INPUT: true; the input reads as it did. -/
def fnExactInertiaOfSpec : ChangeSpec := { name := "fnExactInertiaOf", fn := fun _ => fun
  | [d1, d2] => { results := [.lit (.bool true)], args := [d1, d2] }
  | _ => none }
def fnExactInertiaOfRow : OpenClaim := { program := "ytkoijgeacekeaaa", sum := "233d1972af3ef6e0dda8247fd385a2d8f05f651b0ba1147482bd764304829a4d", func := "loop.example/g01061/laws.FnExactInertiaOf", spec := "fnExactInertiaOf", apart := false }
def FnExactInertiaOfSaid : Prop := fnExactInertiaOfRow.holds Try.pinned (OpenSpec.ofChange fnExactInertiaOfSpec)

/-- ITS FALSE NEIGHBOUR: 'it returns false'. Refute it at one input. -/
def fnExactInertiaOfWrong : ChangeSpec := { name := "fnExactInertiaOf", fn := fun _ => fun
  | [d1, d2] => { results := [.lit (.bool false)], args := [d1, d2] }
  | _ => none }
def FnExactInertiaOfWrongFalsely : Prop := fnExactInertiaOfRow.holds Try.pinned (OpenSpec.ofChange fnExactInertiaOfWrong)

/-- 'laws.FnExactBowMass': WHATEVER THE INPUT: true; the input reads as it did. -/
def fnExactBowMassSpec : ChangeSpec := { name := "fnExactBowMass", fn := fun _ => fun
  | [d] => { results := [.lit (.bool true)], args := [d] }
  | _ => none }
def fnExactBowMassRow : OpenClaim := { program := "ytkoijgeacekeaaa", sum := "233d1972af3ef6e0dda8247fd385a2d8f05f651b0ba1147482bd764304829a4d", func := "loop.example/g01061/laws.FnExactBowMass", spec := "fnExactBowMass", apart := false }
def FnExactBowMassSaid : Prop := fnExactBowMassRow.holds Try.pinned (OpenSpec.ofChange fnExactBowMassSpec)

/-- ITS FALSE NEIGHBOUR: 'it returns false'. Refute it at one input. -/
def fnExactBowMassWrong : ChangeSpec := { name := "fnExactBowMass", fn := fun _ => fun
  | [d] => { results := [.lit (.bool false)], args := [d] }
  | _ => none }
def FnExactBowMassWrongFalsely : Prop := fnExactBowMassRow.holds Try.pinned (OpenSpec.ofChange fnExactBowMassWrong)

/-- 'laws.FnExactBalanceOf': WHATEVER THE INPUT: true; the input reads as it did. -/
def fnExactBalanceOfSpec : ChangeSpec := { name := "fnExactBalanceOf", fn := fun _ => fun
  | [d] => { results := [.lit (.bool true)], args := [d] }
  | _ => none }
def fnExactBalanceOfRow : OpenClaim := { program := "ytkoijgeacekeaaa", sum := "233d1972af3ef6e0dda8247fd385a2d8f05f651b0ba1147482bd764304829a4d", func := "loop.example/g01061/laws.FnExactBalanceOf", spec := "fnExactBalanceOf", apart := false }
def FnExactBalanceOfSaid : Prop := fnExactBalanceOfRow.holds Try.pinned (OpenSpec.ofChange fnExactBalanceOfSpec)

/-- ITS FALSE NEIGHBOUR: 'it returns false'. Refute it at one input. -/
def fnExactBalanceOfWrong : ChangeSpec := { name := "fnExactBalanceOf", fn := fun _ => fun
  | [d] => { results := [.lit (.bool false)], args := [d] }
  | _ => none }
def FnExactBalanceOfWrongFalsely : Prop := fnExactBalanceOfRow.holds Try.pinned (OpenSpec.ofChange fnExactBalanceOfWrong)

/-- 'laws.FnExactAddedMass': WHATEVER THE INPUT: true; the input reads as it did. -/
def fnExactAddedMassSpec : ChangeSpec := { name := "fnExactAddedMass", fn := fun _ => fun
  | [d1, d2, d3] => { results := [.lit (.bool true)], args := [d1, d2, d3] }
  | _ => none }
def fnExactAddedMassRow : OpenClaim := { program := "ytkoijgeacekeaaa", sum := "233d1972af3ef6e0dda8247fd385a2d8f05f651b0ba1147482bd764304829a4d", func := "loop.example/g01061/laws.FnExactAddedMass", spec := "fnExactAddedMass", apart := false }
def FnExactAddedMassSaid : Prop := fnExactAddedMassRow.holds Try.pinned (OpenSpec.ofChange fnExactAddedMassSpec)

/-- ITS FALSE NEIGHBOUR: 'it returns false'. Refute it at one input. -/
def fnExactAddedMassWrong : ChangeSpec := { name := "fnExactAddedMass", fn := fun _ => fun
  | [d1, d2, d3] => { results := [.lit (.bool false)], args := [d1, d2, d3] }
  | _ => none }
def FnExactAddedMassWrongFalsely : Prop := fnExactAddedMassRow.holds Try.pinned (OpenSpec.ofChange fnExactAddedMassWrong)

/-- 'laws.FnExactRibsLength': WHATEVER THE INPUT: true; the input reads as it did. -/
def fnExactRibsLengthSpec : ChangeSpec := { name := "fnExactRibsLength", fn := fun _ => fun
  | [d] => { results := [.lit (.bool true)], args := [d] }
  | _ => none }
def fnExactRibsLengthRow : OpenClaim := { program := "ytkoijgeacekeaaa", sum := "233d1972af3ef6e0dda8247fd385a2d8f05f651b0ba1147482bd764304829a4d", func := "loop.example/g01061/laws.FnExactRibsLength", spec := "fnExactRibsLength", apart := false }
def FnExactRibsLengthSaid : Prop := fnExactRibsLengthRow.holds Try.pinned (OpenSpec.ofChange fnExactRibsLengthSpec)

/-- ITS FALSE NEIGHBOUR: 'it returns false'. Refute it at one input. -/
def fnExactRibsLengthWrong : ChangeSpec := { name := "fnExactRibsLength", fn := fun _ => fun
  | [d] => { results := [.lit (.bool false)], args := [d] }
  | _ => none }
def FnExactRibsLengthWrongFalsely : Prop := fnExactRibsLengthRow.holds Try.pinned (OpenSpec.ofChange fnExactRibsLengthWrong)

/-- 'laws.FnExactMouldGap': WHATEVER THE INPUT: true; the input reads as it did. -/
def fnExactMouldGapSpec : ChangeSpec := { name := "fnExactMouldGap", fn := fun _ => fun
  | [d1, d2] => { results := [.lit (.bool true)], args := [d1, d2] }
  | _ => none }
def fnExactMouldGapRow : OpenClaim := { program := "ytkoijgeacekeaaa", sum := "233d1972af3ef6e0dda8247fd385a2d8f05f651b0ba1147482bd764304829a4d", func := "loop.example/g01061/laws.FnExactMouldGap", spec := "fnExactMouldGap", apart := false }
def FnExactMouldGapSaid : Prop := fnExactMouldGapRow.holds Try.pinned (OpenSpec.ofChange fnExactMouldGapSpec)

/-- ITS FALSE NEIGHBOUR: 'it returns false'. Refute it at one input. -/
def fnExactMouldGapWrong : ChangeSpec := { name := "fnExactMouldGap", fn := fun _ => fun
  | [d1, d2] => { results := [.lit (.bool false)], args := [d1, d2] }
  | _ => none }
def FnExactMouldGapWrongFalsely : Prop := fnExactMouldGapRow.holds Try.pinned (OpenSpec.ofChange fnExactMouldGapWrong)

/-- 'laws.FnExactValidRentals': WHATEVER THE INPUT: true; the input reads as it did. -/
def fnExactValidRentalsSpec : ChangeSpec := { name := "fnExactValidRentals", fn := fun _ => fun
  | [d] => { results := [.lit (.bool true)], args := [d] }
  | _ => none }
def fnExactValidRentalsRow : OpenClaim := { program := "ytkoijgeacekeaaa", sum := "233d1972af3ef6e0dda8247fd385a2d8f05f651b0ba1147482bd764304829a4d", func := "loop.example/g01061/laws.FnExactValidRentals", spec := "fnExactValidRentals", apart := false }
def FnExactValidRentalsSaid : Prop := fnExactValidRentalsRow.holds Try.pinned (OpenSpec.ofChange fnExactValidRentalsSpec)

/-- ITS FALSE NEIGHBOUR: 'it returns false'. Refute it at one input. -/
def fnExactValidRentalsWrong : ChangeSpec := { name := "fnExactValidRentals", fn := fun _ => fun
  | [d] => { results := [.lit (.bool false)], args := [d] }
  | _ => none }
def FnExactValidRentalsWrongFalsely : Prop := fnExactValidRentalsRow.holds Try.pinned (OpenSpec.ofChange fnExactValidRentalsWrong)

/- THE SECOND FORM. 'bulk': how many values and letters a reading holds, each counted each time it is reached (what is shared counts as often as it is met; a slice's spare places count too). A statement '..UptoSaid' is the law's where the arguments, and the package variables that the reading takes, are together of bulk at most 1048576: NARROWER than '..Said'. Prove '..Said' where nothing that the law and all that it calls make is longer than what came in: it says more and counts as full. Else prove '..UptoSaid'. A law counts once. -/
mutual
def uptoBulk {H : Type} : DataW H → Nat
  | .lit (.string bytes) => bytes.length + 1
  | .lit _ => 1
  | .nil => 1
  | .ptr d => uptoBulk d + 1
  | .slice elems spare => uptoBulkAll elems + uptoBulkAll spare + 1
  | .agg parts => uptoBulkAll parts + 1
  | .iface _ d => uptoBulk d + 1
  | .map entries => uptoBulkEntries entries + 1
  | .held _ => 1
def uptoBulkAll {H : Type} : List (DataW H) → Nat
  | [] => 0
  | d :: r => uptoBulk d + uptoBulkAll r
def uptoBulkEntries {H : Type} : List (Lit × DataW H) → Nat
  | [] => 0
  | x :: r => uptoBulkEntry x + uptoBulkEntries r
def uptoBulkEntry {H : Type} : Lit × DataW H → Nat
  | (.string bytes, d) => bytes.length + uptoBulk d + 1
  | (_, d) => uptoBulk d + 1
 end
def uptoSmall : (H : Type) → List (DataW H) → Bool := fun _ ds => decide (uptoBulkAll ds ≤ 1048576)
def OpenSpec.upto (s : _root_.Go.ChangeSpec) : _root_.Go.OpenSpec := { _root_.Go.OpenSpec.ofChange s with cond := some uptoSmall }

/-- 'laws.FnExactWorstPaper', WHERE WHAT IT READS IS OF BULK AT MOST 1048576: true; the input reads as it did. -/
def fnExactWorstPaperUptoRow : OpenClaim := { program := "ytkoijgeacekeaaa", sum := "233d1972af3ef6e0dda8247fd385a2d8f05f651b0ba1147482bd764304829a4d", func := "loop.example/g01061/laws.FnExactWorstPaper", spec := "fnExactWorstPaper", apart := false, narrowed := true }
def FnExactWorstPaperUptoSaid : Prop := fnExactWorstPaperUptoRow.holds Try.pinned (OpenSpec.upto fnExactWorstPaperSpec)

/-- 'laws.FnExactValidPapers', WHERE WHAT IT READS IS OF BULK AT MOST 1048576: true; the input reads as it did. -/
def fnExactValidPapersUptoRow : OpenClaim := { program := "ytkoijgeacekeaaa", sum := "233d1972af3ef6e0dda8247fd385a2d8f05f651b0ba1147482bd764304829a4d", func := "loop.example/g01061/laws.FnExactValidPapers", spec := "fnExactValidPapers", apart := false, narrowed := true }
def FnExactValidPapersUptoSaid : Prop := fnExactValidPapersUptoRow.holds Try.pinned (OpenSpec.upto fnExactValidPapersSpec)

/-- 'laws.FnExactYearTrust', WHERE WHAT IT READS IS OF BULK AT MOST 1048576: true; the input reads as it did. -/
def fnExactYearTrustUptoRow : OpenClaim := { program := "ytkoijgeacekeaaa", sum := "233d1972af3ef6e0dda8247fd385a2d8f05f651b0ba1147482bd764304829a4d", func := "loop.example/g01061/laws.FnExactYearTrust", spec := "fnExactYearTrust", apart := false, narrowed := true }
def FnExactYearTrustUptoSaid : Prop := fnExactYearTrustUptoRow.holds Try.pinned (OpenSpec.upto fnExactYearTrustSpec)

/-- 'laws.FnExactBestYear', WHERE WHAT IT READS IS OF BULK AT MOST 1048576: true; the input reads as it did. -/
def fnExactBestYearUptoRow : OpenClaim := { program := "ytkoijgeacekeaaa", sum := "233d1972af3ef6e0dda8247fd385a2d8f05f651b0ba1147482bd764304829a4d", func := "loop.example/g01061/laws.FnExactBestYear", spec := "fnExactBestYear", apart := false, narrowed := true }
def FnExactBestYearUptoSaid : Prop := fnExactBestYearUptoRow.holds Try.pinned (OpenSpec.upto fnExactBestYearSpec)

/-- 'laws.FnExactHeaviestPart', WHERE WHAT IT READS IS OF BULK AT MOST 1048576: true; the input reads as it did. -/
def fnExactHeaviestPartUptoRow : OpenClaim := { program := "ytkoijgeacekeaaa", sum := "233d1972af3ef6e0dda8247fd385a2d8f05f651b0ba1147482bd764304829a4d", func := "loop.example/g01061/laws.FnExactHeaviestPart", spec := "fnExactHeaviestPart", apart := false, narrowed := true }
def FnExactHeaviestPartUptoSaid : Prop := fnExactHeaviestPartUptoRow.holds Try.pinned (OpenSpec.upto fnExactHeaviestPartSpec)

/-- 'laws.FnExactInertiaOf', WHERE WHAT IT READS IS OF BULK AT MOST 1048576: true; the input reads as it did. -/
def fnExactInertiaOfUptoRow : OpenClaim := { program := "ytkoijgeacekeaaa", sum := "233d1972af3ef6e0dda8247fd385a2d8f05f651b0ba1147482bd764304829a4d", func := "loop.example/g01061/laws.FnExactInertiaOf", spec := "fnExactInertiaOf", apart := false, narrowed := true }
def FnExactInertiaOfUptoSaid : Prop := fnExactInertiaOfUptoRow.holds Try.pinned (OpenSpec.upto fnExactInertiaOfSpec)

/-- 'laws.FnExactBowMass', WHERE WHAT IT READS IS OF BULK AT MOST 1048576: true; the input reads as it did. -/
def fnExactBowMassUptoRow : OpenClaim := { program := "ytkoijgeacekeaaa", sum := "233d1972af3ef6e0dda8247fd385a2d8f05f651b0ba1147482bd764304829a4d", func := "loop.example/g01061/laws.FnExactBowMass", spec := "fnExactBowMass", apart := false, narrowed := true }
def FnExactBowMassUptoSaid : Prop := fnExactBowMassUptoRow.holds Try.pinned (OpenSpec.upto fnExactBowMassSpec)

/-- 'laws.FnExactBalanceOf', WHERE WHAT IT READS IS OF BULK AT MOST 1048576: true; the input reads as it did. -/
def fnExactBalanceOfUptoRow : OpenClaim := { program := "ytkoijgeacekeaaa", sum := "233d1972af3ef6e0dda8247fd385a2d8f05f651b0ba1147482bd764304829a4d", func := "loop.example/g01061/laws.FnExactBalanceOf", spec := "fnExactBalanceOf", apart := false, narrowed := true }
def FnExactBalanceOfUptoSaid : Prop := fnExactBalanceOfUptoRow.holds Try.pinned (OpenSpec.upto fnExactBalanceOfSpec)

/-- 'laws.FnExactAddedMass', WHERE WHAT IT READS IS OF BULK AT MOST 1048576: true; the input reads as it did. -/
def fnExactAddedMassUptoRow : OpenClaim := { program := "ytkoijgeacekeaaa", sum := "233d1972af3ef6e0dda8247fd385a2d8f05f651b0ba1147482bd764304829a4d", func := "loop.example/g01061/laws.FnExactAddedMass", spec := "fnExactAddedMass", apart := false, narrowed := true }
def FnExactAddedMassUptoSaid : Prop := fnExactAddedMassUptoRow.holds Try.pinned (OpenSpec.upto fnExactAddedMassSpec)

/-- 'laws.FnExactRibsLength', WHERE WHAT IT READS IS OF BULK AT MOST 1048576: true; the input reads as it did. -/
def fnExactRibsLengthUptoRow : OpenClaim := { program := "ytkoijgeacekeaaa", sum := "233d1972af3ef6e0dda8247fd385a2d8f05f651b0ba1147482bd764304829a4d", func := "loop.example/g01061/laws.FnExactRibsLength", spec := "fnExactRibsLength", apart := false, narrowed := true }
def FnExactRibsLengthUptoSaid : Prop := fnExactRibsLengthUptoRow.holds Try.pinned (OpenSpec.upto fnExactRibsLengthSpec)

/-- 'laws.FnExactMouldGap', WHERE WHAT IT READS IS OF BULK AT MOST 1048576: true; the input reads as it did. -/
def fnExactMouldGapUptoRow : OpenClaim := { program := "ytkoijgeacekeaaa", sum := "233d1972af3ef6e0dda8247fd385a2d8f05f651b0ba1147482bd764304829a4d", func := "loop.example/g01061/laws.FnExactMouldGap", spec := "fnExactMouldGap", apart := false, narrowed := true }
def FnExactMouldGapUptoSaid : Prop := fnExactMouldGapUptoRow.holds Try.pinned (OpenSpec.upto fnExactMouldGapSpec)

/-- 'laws.FnExactValidRentals', WHERE WHAT IT READS IS OF BULK AT MOST 1048576: true; the input reads as it did. -/
def fnExactValidRentalsUptoRow : OpenClaim := { program := "ytkoijgeacekeaaa", sum := "233d1972af3ef6e0dda8247fd385a2d8f05f651b0ba1147482bd764304829a4d", func := "loop.example/g01061/laws.FnExactValidRentals", spec := "fnExactValidRentals", apart := false, narrowed := true }
def FnExactValidRentalsUptoSaid : Prop := fnExactValidRentalsUptoRow.holds Try.pinned (OpenSpec.upto fnExactValidRentalsSpec)

end Rows
end Go.Proofs.Ytkoijgeacekeaaa
