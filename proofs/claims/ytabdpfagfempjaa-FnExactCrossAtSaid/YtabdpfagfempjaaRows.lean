/-
  No cell of these rows narrows 'for every input' (looked for: loops, veiled, ifaces, maps, wideKeys, modest, calm, conditions, laid).
  DERIVED. THE GIVEN ROWS OF THIS SEAT. 12 by the template 'for every input the law returns true; each argument reads behind the call as it read before'; 0 by the template 'total and deterministic' (their statements: YtabdpfagfempjaaTotals.lean).
  GIVEN WITH THE SEED: the statements are not yours to turn. If you find one false, say at which input.
  Laid BY PROGRAM, IN A SANDBOX (cutbox-rows.mjs): the forced cells as the released guide's own fill.sh prints them over the translation 49081e8d56203d03… (all of the seat's roots in one cut). By AI agents, Wed Nov 11 2026. No macro, syntax, notation, axiom, sorry.
-/
import Derived.Test.YtabdpfagfempjaaChecked
import GoSem.Claim
import GoSem.ClaimJoined
import GoSem.ClaimMapViews
import Derived.JoinedTies
import Derived.KernelRfl
namespace Go.Proofs.Ytabdpfagfempjaa
/- THE CELL 'sum', in the pinned program and in every row, IS THE sha256 OF THE DUMP (.gsa) THAT YtabdpfagfempjaaProg.lean LOADS. Nothing in Lean hashes anything: it is a label: what it is worth is what the hold of that sum in a sandbox is worth. -/
noncomputable def Try.pinned : Pinned := { name := "ytabdpfagfempjaa", sum := "49081e8d56203d03cd4314b5efe9f917c363b0a8aa363eb6d5eb76d0d6f069aa", checked := Try.checked }
namespace Rows
def none {H : Type} : Left H := { results := [], args := [] }

/-- 'laws.FnExactValidPegs': WHATEVER THE INPUT: true; the input reads as it did. -/
def fnExactValidPegsSpec : ChangeSpec := { name := "fnExactValidPegs", fn := fun _ => fun
  | [d] => { results := [.lit (.bool true)], args := [d] }
  | _ => none }
def fnExactValidPegsRow : OpenClaim := { program := "ytabdpfagfempjaa", sum := "49081e8d56203d03cd4314b5efe9f917c363b0a8aa363eb6d5eb76d0d6f069aa", func := "loop.example/g01061/laws.FnExactValidPegs", spec := "fnExactValidPegs", apart := false }
def FnExactValidPegsSaid : Prop := fnExactValidPegsRow.holds Try.pinned (OpenSpec.ofChange fnExactValidPegsSpec)

/-- ITS FALSE NEIGHBOUR: 'it returns false'. Refute it at one input. -/
def fnExactValidPegsWrong : ChangeSpec := { name := "fnExactValidPegs", fn := fun _ => fun
  | [d] => { results := [.lit (.bool false)], args := [d] }
  | _ => none }
def FnExactValidPegsWrongFalsely : Prop := fnExactValidPegsRow.holds Try.pinned (OpenSpec.ofChange fnExactValidPegsWrong)

/-- 'laws.FnExactCrossAt': WHATEVER THE INPUT: true; the input reads as it did. -/
def fnExactCrossAtSpec : ChangeSpec := { name := "fnExactCrossAt", fn := fun _ => fun
  | [d1, d2] => { results := [.lit (.bool true)], args := [d1, d2] }
  | _ => none }
def fnExactCrossAtRow : OpenClaim := { program := "ytabdpfagfempjaa", sum := "49081e8d56203d03cd4314b5efe9f917c363b0a8aa363eb6d5eb76d0d6f069aa", func := "loop.example/g01061/laws.FnExactCrossAt", spec := "fnExactCrossAt", apart := false }
def FnExactCrossAtSaid : Prop := fnExactCrossAtRow.holds Try.pinned (OpenSpec.ofChange fnExactCrossAtSpec)

/-- ITS FALSE NEIGHBOUR: 'it returns false'. Refute it at one input. -/
def fnExactCrossAtWrong : ChangeSpec := { name := "fnExactCrossAt", fn := fun _ => fun
  | [d1, d2] => { results := [.lit (.bool false)], args := [d1, d2] }
  | _ => none }
def FnExactCrossAtWrongFalsely : Prop := fnExactCrossAtRow.holds Try.pinned (OpenSpec.ofChange fnExactCrossAtWrong)

/-- 'laws.FnExactValidGoods': WHATEVER THE INPUT: true; the input reads as it did. -/
def fnExactValidGoodsSpec : ChangeSpec := { name := "fnExactValidGoods", fn := fun _ => fun
  | [d] => { results := [.lit (.bool true)], args := [d] }
  | _ => none }
def fnExactValidGoodsRow : OpenClaim := { program := "ytabdpfagfempjaa", sum := "49081e8d56203d03cd4314b5efe9f917c363b0a8aa363eb6d5eb76d0d6f069aa", func := "loop.example/g01061/laws.FnExactValidGoods", spec := "fnExactValidGoods", apart := false }
def FnExactValidGoodsSaid : Prop := fnExactValidGoodsRow.holds Try.pinned (OpenSpec.ofChange fnExactValidGoodsSpec)

/-- ITS FALSE NEIGHBOUR: 'it returns false'. Refute it at one input. -/
def fnExactValidGoodsWrong : ChangeSpec := { name := "fnExactValidGoods", fn := fun _ => fun
  | [d] => { results := [.lit (.bool false)], args := [d] }
  | _ => none }
def FnExactValidGoodsWrongFalsely : Prop := fnExactValidGoodsRow.holds Try.pinned (OpenSpec.ofChange fnExactValidGoodsWrong)

/-- 'laws.FnExactValidWorks': WHATEVER THE INPUT: true; the input reads as it did. -/
def fnExactValidWorksSpec : ChangeSpec := { name := "fnExactValidWorks", fn := fun _ => fun
  | [d] => { results := [.lit (.bool true)], args := [d] }
  | _ => none }
def fnExactValidWorksRow : OpenClaim := { program := "ytabdpfagfempjaa", sum := "49081e8d56203d03cd4314b5efe9f917c363b0a8aa363eb6d5eb76d0d6f069aa", func := "loop.example/g01061/laws.FnExactValidWorks", spec := "fnExactValidWorks", apart := false }
def FnExactValidWorksSaid : Prop := fnExactValidWorksRow.holds Try.pinned (OpenSpec.ofChange fnExactValidWorksSpec)

/-- ITS FALSE NEIGHBOUR: 'it returns false'. Refute it at one input. -/
def fnExactValidWorksWrong : ChangeSpec := { name := "fnExactValidWorks", fn := fun _ => fun
  | [d] => { results := [.lit (.bool false)], args := [d] }
  | _ => none }
def FnExactValidWorksWrongFalsely : Prop := fnExactValidWorksRow.holds Try.pinned (OpenSpec.ofChange fnExactValidWorksWrong)

/-- 'laws.FnExactValidStacks': WHATEVER THE INPUT: true; the input reads as it did. -/
def fnExactValidStacksSpec : ChangeSpec := { name := "fnExactValidStacks", fn := fun _ => fun
  | [d] => { results := [.lit (.bool true)], args := [d] }
  | _ => none }
def fnExactValidStacksRow : OpenClaim := { program := "ytabdpfagfempjaa", sum := "49081e8d56203d03cd4314b5efe9f917c363b0a8aa363eb6d5eb76d0d6f069aa", func := "loop.example/g01061/laws.FnExactValidStacks", spec := "fnExactValidStacks", apart := false }
def FnExactValidStacksSaid : Prop := fnExactValidStacksRow.holds Try.pinned (OpenSpec.ofChange fnExactValidStacksSpec)

/-- ITS FALSE NEIGHBOUR: 'it returns false'. Refute it at one input. -/
def fnExactValidStacksWrong : ChangeSpec := { name := "fnExactValidStacks", fn := fun _ => fun
  | [d] => { results := [.lit (.bool false)], args := [d] }
  | _ => none }
def FnExactValidStacksWrongFalsely : Prop := fnExactValidStacksRow.holds Try.pinned (OpenSpec.ofChange fnExactValidStacksWrong)

/-- 'laws.FnExactValidVisits': WHATEVER THE INPUT: true; the input reads as it did. -/
def fnExactValidVisitsSpec : ChangeSpec := { name := "fnExactValidVisits", fn := fun _ => fun
  | [d] => { results := [.lit (.bool true)], args := [d] }
  | _ => none }
def fnExactValidVisitsRow : OpenClaim := { program := "ytabdpfagfempjaa", sum := "49081e8d56203d03cd4314b5efe9f917c363b0a8aa363eb6d5eb76d0d6f069aa", func := "loop.example/g01061/laws.FnExactValidVisits", spec := "fnExactValidVisits", apart := false }
def FnExactValidVisitsSaid : Prop := fnExactValidVisitsRow.holds Try.pinned (OpenSpec.ofChange fnExactValidVisitsSpec)

/-- ITS FALSE NEIGHBOUR: 'it returns false'. Refute it at one input. -/
def fnExactValidVisitsWrong : ChangeSpec := { name := "fnExactValidVisits", fn := fun _ => fun
  | [d] => { results := [.lit (.bool false)], args := [d] }
  | _ => none }
def FnExactValidVisitsWrongFalsely : Prop := fnExactValidVisitsRow.holds Try.pinned (OpenSpec.ofChange fnExactValidVisitsWrong)

/-- 'laws.FnExactAccountOf': WHATEVER THE INPUT: true; the input reads as it did. -/
def fnExactAccountOfSpec : ChangeSpec := { name := "fnExactAccountOf", fn := fun _ => fun
  | [d1, d2, d3] => { results := [.lit (.bool true)], args := [d1, d2, d3] }
  | _ => none }
def fnExactAccountOfRow : OpenClaim := { program := "ytabdpfagfempjaa", sum := "49081e8d56203d03cd4314b5efe9f917c363b0a8aa363eb6d5eb76d0d6f069aa", func := "loop.example/g01061/laws.FnExactAccountOf", spec := "fnExactAccountOf", apart := false }
def FnExactAccountOfSaid : Prop := fnExactAccountOfRow.holds Try.pinned (OpenSpec.ofChange fnExactAccountOfSpec)

/-- ITS FALSE NEIGHBOUR: 'it returns false'. Refute it at one input. -/
def fnExactAccountOfWrong : ChangeSpec := { name := "fnExactAccountOf", fn := fun _ => fun
  | [d1, d2, d3] => { results := [.lit (.bool false)], args := [d1, d2, d3] }
  | _ => none }
def FnExactAccountOfWrongFalsely : Prop := fnExactAccountOfRow.holds Try.pinned (OpenSpec.ofChange fnExactAccountOfWrong)

/-- 'laws.FnExactValidBook': WHATEVER THE INPUT: true; the input reads as it did. -/
def fnExactValidBookSpec : ChangeSpec := { name := "fnExactValidBook", fn := fun _ => fun
  | [d] => { results := [.lit (.bool true)], args := [d] }
  | _ => none }
def fnExactValidBookRow : OpenClaim := { program := "ytabdpfagfempjaa", sum := "49081e8d56203d03cd4314b5efe9f917c363b0a8aa363eb6d5eb76d0d6f069aa", func := "loop.example/g01061/laws.FnExactValidBook", spec := "fnExactValidBook", apart := false }
def FnExactValidBookSaid : Prop := fnExactValidBookRow.holds Try.pinned (OpenSpec.ofChange fnExactValidBookSpec)

/-- ITS FALSE NEIGHBOUR: 'it returns false'. Refute it at one input. -/
def fnExactValidBookWrong : ChangeSpec := { name := "fnExactValidBook", fn := fun _ => fun
  | [d] => { results := [.lit (.bool false)], args := [d] }
  | _ => none }
def FnExactValidBookWrongFalsely : Prop := fnExactValidBookRow.holds Try.pinned (OpenSpec.ofChange fnExactValidBookWrong)

/-- 'laws.FnExactValidDeeds': WHATEVER THE INPUT: true; the input reads as it did. -/
def fnExactValidDeedsSpec : ChangeSpec := { name := "fnExactValidDeeds", fn := fun _ => fun
  | [d] => { results := [.lit (.bool true)], args := [d] }
  | _ => none }
def fnExactValidDeedsRow : OpenClaim := { program := "ytabdpfagfempjaa", sum := "49081e8d56203d03cd4314b5efe9f917c363b0a8aa363eb6d5eb76d0d6f069aa", func := "loop.example/g01061/laws.FnExactValidDeeds", spec := "fnExactValidDeeds", apart := false }
def FnExactValidDeedsSaid : Prop := fnExactValidDeedsRow.holds Try.pinned (OpenSpec.ofChange fnExactValidDeedsSpec)

/-- ITS FALSE NEIGHBOUR: 'it returns false'. Refute it at one input. -/
def fnExactValidDeedsWrong : ChangeSpec := { name := "fnExactValidDeeds", fn := fun _ => fun
  | [d] => { results := [.lit (.bool false)], args := [d] }
  | _ => none }
def FnExactValidDeedsWrongFalsely : Prop := fnExactValidDeedsRow.holds Try.pinned (OpenSpec.ofChange fnExactValidDeedsWrong)

/-- 'laws.FnExactValidQuotes': WHATEVER THE INPUT: true; the input reads as it did. -/
def fnExactValidQuotesSpec : ChangeSpec := { name := "fnExactValidQuotes", fn := fun _ => fun
  | [d] => { results := [.lit (.bool true)], args := [d] }
  | _ => none }
def fnExactValidQuotesRow : OpenClaim := { program := "ytabdpfagfempjaa", sum := "49081e8d56203d03cd4314b5efe9f917c363b0a8aa363eb6d5eb76d0d6f069aa", func := "loop.example/g01061/laws.FnExactValidQuotes", spec := "fnExactValidQuotes", apart := false }
def FnExactValidQuotesSaid : Prop := fnExactValidQuotesRow.holds Try.pinned (OpenSpec.ofChange fnExactValidQuotesSpec)

/-- ITS FALSE NEIGHBOUR: 'it returns false'. Refute it at one input. -/
def fnExactValidQuotesWrong : ChangeSpec := { name := "fnExactValidQuotes", fn := fun _ => fun
  | [d] => { results := [.lit (.bool false)], args := [d] }
  | _ => none }
def FnExactValidQuotesWrongFalsely : Prop := fnExactValidQuotesRow.holds Try.pinned (OpenSpec.ofChange fnExactValidQuotesWrong)

/-- 'laws.FnExactTwiceArea': WHATEVER THE INPUT: true; the input reads as it did. -/
def fnExactTwiceAreaSpec : ChangeSpec := { name := "fnExactTwiceArea", fn := fun _ => fun
  | [d] => { results := [.lit (.bool true)], args := [d] }
  | _ => none }
def fnExactTwiceAreaRow : OpenClaim := { program := "ytabdpfagfempjaa", sum := "49081e8d56203d03cd4314b5efe9f917c363b0a8aa363eb6d5eb76d0d6f069aa", func := "loop.example/g01061/laws.FnExactTwiceArea", spec := "fnExactTwiceArea", apart := false }
def FnExactTwiceAreaSaid : Prop := fnExactTwiceAreaRow.holds Try.pinned (OpenSpec.ofChange fnExactTwiceAreaSpec)

/-- ITS FALSE NEIGHBOUR: 'it returns false'. Refute it at one input. -/
def fnExactTwiceAreaWrong : ChangeSpec := { name := "fnExactTwiceArea", fn := fun _ => fun
  | [d] => { results := [.lit (.bool false)], args := [d] }
  | _ => none }
def FnExactTwiceAreaWrongFalsely : Prop := fnExactTwiceAreaRow.holds Try.pinned (OpenSpec.ofChange fnExactTwiceAreaWrong)

/-- 'laws.FnExactValidPolicies': WHATEVER THE INPUT: true; the input reads as it did. -/
def fnExactValidPoliciesSpec : ChangeSpec := { name := "fnExactValidPolicies", fn := fun _ => fun
  | [d] => { results := [.lit (.bool true)], args := [d] }
  | _ => none }
def fnExactValidPoliciesRow : OpenClaim := { program := "ytabdpfagfempjaa", sum := "49081e8d56203d03cd4314b5efe9f917c363b0a8aa363eb6d5eb76d0d6f069aa", func := "loop.example/g01061/laws.FnExactValidPolicies", spec := "fnExactValidPolicies", apart := false }
def FnExactValidPoliciesSaid : Prop := fnExactValidPoliciesRow.holds Try.pinned (OpenSpec.ofChange fnExactValidPoliciesSpec)

/-- ITS FALSE NEIGHBOUR: 'it returns false'. Refute it at one input. -/
def fnExactValidPoliciesWrong : ChangeSpec := { name := "fnExactValidPolicies", fn := fun _ => fun
  | [d] => { results := [.lit (.bool false)], args := [d] }
  | _ => none }
def FnExactValidPoliciesWrongFalsely : Prop := fnExactValidPoliciesRow.holds Try.pinned (OpenSpec.ofChange fnExactValidPoliciesWrong)

/- THE SECOND FORM. 'bulk': how many values and letters a reading holds, each counted each time it is reached (what is shared counts as often as it is met; a slice's spare places count too). A statement '..UptoSaid' is the law's where the arguments, and the package variables that the reading takes, are together of bulk at most 1048576: NARROWER than '..Said'. Prove '..Said' where nothing that the law and all that it calls make is longer than what came in: it says more and counts as full. Else prove '..UptoSaid'. A law counts once. -/
mutual
def uptoBulk {H : Type} : DataW H → Nat
  | .lit (.string bytes) => bytes.length + 1
  | .lit _ => 1
  | .nil => 1
  | .ptr d => uptoBulk d + 1
  | .slice elems spare => uptoBulkAll elems + uptoBulkAll spare + 1
  | .agg parts => uptoBulkAll parts + 1
  | .iface _ d => uptoBulk d + 1
  | .map entries => uptoBulkEntries entries + 1
  | .held _ => 1
def uptoBulkAll {H : Type} : List (DataW H) → Nat
  | [] => 0
  | d :: r => uptoBulk d + uptoBulkAll r
def uptoBulkEntries {H : Type} : List (Lit × DataW H) → Nat
  | [] => 0
  | x :: r => uptoBulkEntry x + uptoBulkEntries r
def uptoBulkEntry {H : Type} : Lit × DataW H → Nat
  | (.string bytes, d) => bytes.length + uptoBulk d + 1
  | (_, d) => uptoBulk d + 1
 end
def uptoSmall : (H : Type) → List (DataW H) → Bool := fun _ ds => decide (uptoBulkAll ds ≤ 1048576)
def OpenSpec.upto (s : _root_.Go.ChangeSpec) : _root_.Go.OpenSpec := { _root_.Go.OpenSpec.ofChange s with cond := some uptoSmall }

/-- 'laws.FnExactValidPegs', WHERE WHAT IT READS IS OF BULK AT MOST 1048576: true; the input reads as it did. -/
def fnExactValidPegsUptoRow : OpenClaim := { program := "ytabdpfagfempjaa", sum := "49081e8d56203d03cd4314b5efe9f917c363b0a8aa363eb6d5eb76d0d6f069aa", func := "loop.example/g01061/laws.FnExactValidPegs", spec := "fnExactValidPegs", apart := false, narrowed := true }
def FnExactValidPegsUptoSaid : Prop := fnExactValidPegsUptoRow.holds Try.pinned (OpenSpec.upto fnExactValidPegsSpec)

/-- 'laws.FnExactCrossAt', WHERE WHAT IT READS IS OF BULK AT MOST 1048576: true; the input reads as it did. -/
def fnExactCrossAtUptoRow : OpenClaim := { program := "ytabdpfagfempjaa", sum := "49081e8d56203d03cd4314b5efe9f917c363b0a8aa363eb6d5eb76d0d6f069aa", func := "loop.example/g01061/laws.FnExactCrossAt", spec := "fnExactCrossAt", apart := false, narrowed := true }
def FnExactCrossAtUptoSaid : Prop := fnExactCrossAtUptoRow.holds Try.pinned (OpenSpec.upto fnExactCrossAtSpec)

/-- 'laws.FnExactValidGoods', WHERE WHAT IT READS IS OF BULK AT MOST 1048576: true; the input reads as it did. -/
def fnExactValidGoodsUptoRow : OpenClaim := { program := "ytabdpfagfempjaa", sum := "49081e8d56203d03cd4314b5efe9f917c363b0a8aa363eb6d5eb76d0d6f069aa", func := "loop.example/g01061/laws.FnExactValidGoods", spec := "fnExactValidGoods", apart := false, narrowed := true }
def FnExactValidGoodsUptoSaid : Prop := fnExactValidGoodsUptoRow.holds Try.pinned (OpenSpec.upto fnExactValidGoodsSpec)

/-- 'laws.FnExactValidWorks', WHERE WHAT IT READS IS OF BULK AT MOST 1048576: true; the input reads as it did. -/
def fnExactValidWorksUptoRow : OpenClaim := { program := "ytabdpfagfempjaa", sum := "49081e8d56203d03cd4314b5efe9f917c363b0a8aa363eb6d5eb76d0d6f069aa", func := "loop.example/g01061/laws.FnExactValidWorks", spec := "fnExactValidWorks", apart := false, narrowed := true }
def FnExactValidWorksUptoSaid : Prop := fnExactValidWorksUptoRow.holds Try.pinned (OpenSpec.upto fnExactValidWorksSpec)

/-- 'laws.FnExactValidStacks', WHERE WHAT IT READS IS OF BULK AT MOST 1048576: true; the input reads as it did. -/
def fnExactValidStacksUptoRow : OpenClaim := { program := "ytabdpfagfempjaa", sum := "49081e8d56203d03cd4314b5efe9f917c363b0a8aa363eb6d5eb76d0d6f069aa", func := "loop.example/g01061/laws.FnExactValidStacks", spec := "fnExactValidStacks", apart := false, narrowed := true }
def FnExactValidStacksUptoSaid : Prop := fnExactValidStacksUptoRow.holds Try.pinned (OpenSpec.upto fnExactValidStacksSpec)

/-- 'laws.FnExactValidVisits', WHERE WHAT IT READS IS OF BULK AT MOST 1048576: true; the input reads as it did. -/
def fnExactValidVisitsUptoRow : OpenClaim := { program := "ytabdpfagfempjaa", sum := "49081e8d56203d03cd4314b5efe9f917c363b0a8aa363eb6d5eb76d0d6f069aa", func := "loop.example/g01061/laws.FnExactValidVisits", spec := "fnExactValidVisits", apart := false, narrowed := true }
def FnExactValidVisitsUptoSaid : Prop := fnExactValidVisitsUptoRow.holds Try.pinned (OpenSpec.upto fnExactValidVisitsSpec)

/-- 'laws.FnExactAccountOf', WHERE WHAT IT READS IS OF BULK AT MOST 1048576: true; the input reads as it did. -/
def fnExactAccountOfUptoRow : OpenClaim := { program := "ytabdpfagfempjaa", sum := "49081e8d56203d03cd4314b5efe9f917c363b0a8aa363eb6d5eb76d0d6f069aa", func := "loop.example/g01061/laws.FnExactAccountOf", spec := "fnExactAccountOf", apart := false, narrowed := true }
def FnExactAccountOfUptoSaid : Prop := fnExactAccountOfUptoRow.holds Try.pinned (OpenSpec.upto fnExactAccountOfSpec)

/-- 'laws.FnExactValidBook', WHERE WHAT IT READS IS OF BULK AT MOST 1048576: true; the input reads as it did. -/
def fnExactValidBookUptoRow : OpenClaim := { program := "ytabdpfagfempjaa", sum := "49081e8d56203d03cd4314b5efe9f917c363b0a8aa363eb6d5eb76d0d6f069aa", func := "loop.example/g01061/laws.FnExactValidBook", spec := "fnExactValidBook", apart := false, narrowed := true }
def FnExactValidBookUptoSaid : Prop := fnExactValidBookUptoRow.holds Try.pinned (OpenSpec.upto fnExactValidBookSpec)

/-- 'laws.FnExactValidDeeds', WHERE WHAT IT READS IS OF BULK AT MOST 1048576: true; the input reads as it did. -/
def fnExactValidDeedsUptoRow : OpenClaim := { program := "ytabdpfagfempjaa", sum := "49081e8d56203d03cd4314b5efe9f917c363b0a8aa363eb6d5eb76d0d6f069aa", func := "loop.example/g01061/laws.FnExactValidDeeds", spec := "fnExactValidDeeds", apart := false, narrowed := true }
def FnExactValidDeedsUptoSaid : Prop := fnExactValidDeedsUptoRow.holds Try.pinned (OpenSpec.upto fnExactValidDeedsSpec)

/-- 'laws.FnExactValidQuotes', WHERE WHAT IT READS IS OF BULK AT MOST 1048576: true; the input reads as it did. -/
def fnExactValidQuotesUptoRow : OpenClaim := { program := "ytabdpfagfempjaa", sum := "49081e8d56203d03cd4314b5efe9f917c363b0a8aa363eb6d5eb76d0d6f069aa", func := "loop.example/g01061/laws.FnExactValidQuotes", spec := "fnExactValidQuotes", apart := false, narrowed := true }
def FnExactValidQuotesUptoSaid : Prop := fnExactValidQuotesUptoRow.holds Try.pinned (OpenSpec.upto fnExactValidQuotesSpec)

/-- 'laws.FnExactTwiceArea', WHERE WHAT IT READS IS OF BULK AT MOST 1048576: true; the input reads as it did. -/
def fnExactTwiceAreaUptoRow : OpenClaim := { program := "ytabdpfagfempjaa", sum := "49081e8d56203d03cd4314b5efe9f917c363b0a8aa363eb6d5eb76d0d6f069aa", func := "loop.example/g01061/laws.FnExactTwiceArea", spec := "fnExactTwiceArea", apart := false, narrowed := true }
def FnExactTwiceAreaUptoSaid : Prop := fnExactTwiceAreaUptoRow.holds Try.pinned (OpenSpec.upto fnExactTwiceAreaSpec)

/-- 'laws.FnExactValidPolicies', WHERE WHAT IT READS IS OF BULK AT MOST 1048576: true; the input reads as it did. -/
def fnExactValidPoliciesUptoRow : OpenClaim := { program := "ytabdpfagfempjaa", sum := "49081e8d56203d03cd4314b5efe9f917c363b0a8aa363eb6d5eb76d0d6f069aa", func := "loop.example/g01061/laws.FnExactValidPolicies", spec := "fnExactValidPolicies", apart := false, narrowed := true }
def FnExactValidPoliciesUptoSaid : Prop := fnExactValidPoliciesUptoRow.holds Try.pinned (OpenSpec.upto fnExactValidPoliciesSpec)

end Rows
end Go.Proofs.Ytabdpfagfempjaa
