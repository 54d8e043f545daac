/-
  No cell of these rows narrows 'for every input' (looked for: loops, veiled, ifaces, maps, wideKeys, modest, calm, conditions, laid).
  DERIVED. THE GIVEN ROWS OF THIS SEAT. 6 by the template 'for every input the law returns true; each argument reads behind the call as it read before'; 0 by the template 'total and deterministic' (their statements: YtplnbkfgedjjkaaTotals.lean).
  GIVEN WITH THE SEED: the statements are not yours to turn. If you find one false, say at which input.
  Laid BY PROGRAM, IN A SANDBOX (cutbox-rows.mjs): the forced cells as the released guide's own fill.sh prints them over the translation 975c4d2c5fa28496… (all of the seat's roots in one cut). By AI agents, Wed Nov 11 2026. No macro, syntax, notation, axiom, sorry.
-/
import Derived.Test.YtplnbkfgedjjkaaChecked
import GoSem.Claim
import GoSem.ClaimJoined
import GoSem.ClaimMapViews
import Derived.JoinedTies
import Derived.KernelRfl
namespace Go.Proofs.Ytplnbkfgedjjkaa
/- THE CELL 'sum', in the pinned program and in every row, IS THE sha256 OF THE DUMP (.gsa) THAT YtplnbkfgedjjkaaProg.lean LOADS. Nothing in Lean hashes anything: it is a label: what it is worth is what the hold of that sum in a sandbox is worth. -/
noncomputable def Try.pinned : Pinned := { name := "ytplnbkfgedjjkaa", sum := "975c4d2c5fa2849603156658622d3bac62029a4458cfcd429432cadb053ea5a6", checked := Try.checked }
namespace Rows
def none {H : Type} : Left H := { results := [], args := [] }

/-- 'laws.FnExactChainCost': WHATEVER THE INPUT: true; the input reads as it did. -/
def fnExactChainCostSpec : ChangeSpec := { name := "fnExactChainCost", fn := fun _ => fun
  | [d1, d2] => { results := [.lit (.bool true)], args := [d1, d2] }
  | _ => none }
def fnExactChainCostRow : OpenClaim := { program := "ytplnbkfgedjjkaa", sum := "975c4d2c5fa2849603156658622d3bac62029a4458cfcd429432cadb053ea5a6", func := "loop.example/g01111/laws.FnExactChainCost", spec := "fnExactChainCost", apart := false }
def FnExactChainCostSaid : Prop := fnExactChainCostRow.holds Try.pinned (OpenSpec.ofChange fnExactChainCostSpec)

/-- ITS FALSE NEIGHBOUR: 'it returns false'. Refute it at one input. -/
def fnExactChainCostWrong : ChangeSpec := { name := "fnExactChainCost", fn := fun _ => fun
  | [d1, d2] => { results := [.lit (.bool false)], args := [d1, d2] }
  | _ => none }
def FnExactChainCostWrongFalsely : Prop := fnExactChainCostRow.holds Try.pinned (OpenSpec.ofChange fnExactChainCostWrong)

/-- 'laws.FnFairPrices': WHATEVER THE INPUT: true; the input reads as it did. -/
def fnFairPricesSpec : ChangeSpec := { name := "fnFairPrices", fn := fun _ => fun
  | [d] => { results := [.lit (.bool true)], args := [d] }
  | _ => none }
def fnFairPricesRow : OpenClaim := { program := "ytplnbkfgedjjkaa", sum := "975c4d2c5fa2849603156658622d3bac62029a4458cfcd429432cadb053ea5a6", func := "loop.example/g01111/laws.FnFairPrices", spec := "fnFairPrices", apart := false }
def FnFairPricesSaid : Prop := fnFairPricesRow.holds Try.pinned (OpenSpec.ofChange fnFairPricesSpec)

/-- ITS FALSE NEIGHBOUR: 'it returns false'. Refute it at one input. -/
def fnFairPricesWrong : ChangeSpec := { name := "fnFairPrices", fn := fun _ => fun
  | [d] => { results := [.lit (.bool false)], args := [d] }
  | _ => none }
def FnFairPricesWrongFalsely : Prop := fnFairPricesRow.holds Try.pinned (OpenSpec.ofChange fnFairPricesWrong)

/-- 'laws.FnExactSmoothPlan': WHATEVER THE INPUT: true; the input reads as it did. -/
def fnExactSmoothPlanSpec : ChangeSpec := { name := "fnExactSmoothPlan", fn := fun _ => fun
  | [d1, d2] => { results := [.lit (.bool true)], args := [d1, d2] }
  | _ => none }
def fnExactSmoothPlanRow : OpenClaim := { program := "ytplnbkfgedjjkaa", sum := "975c4d2c5fa2849603156658622d3bac62029a4458cfcd429432cadb053ea5a6", func := "loop.example/g01111/laws.FnExactSmoothPlan", spec := "fnExactSmoothPlan", apart := false }
def FnExactSmoothPlanSaid : Prop := fnExactSmoothPlanRow.holds Try.pinned (OpenSpec.ofChange fnExactSmoothPlanSpec)

/-- ITS FALSE NEIGHBOUR: 'it returns false'. Refute it at one input. -/
def fnExactSmoothPlanWrong : ChangeSpec := { name := "fnExactSmoothPlan", fn := fun _ => fun
  | [d1, d2] => { results := [.lit (.bool false)], args := [d1, d2] }
  | _ => none }
def FnExactSmoothPlanWrongFalsely : Prop := fnExactSmoothPlanRow.holds Try.pinned (OpenSpec.ofChange fnExactSmoothPlanWrong)

/-- 'laws.FnExactNewConsole': WHATEVER THE INPUT: true; the input reads as it did. -/
def fnExactNewConsoleSpec : ChangeSpec := { name := "fnExactNewConsole", fn := fun _ => fun
  | [d] => { results := [.lit (.bool true)], args := [d] }
  | _ => none }
def fnExactNewConsoleRow : OpenClaim := { program := "ytplnbkfgedjjkaa", sum := "975c4d2c5fa2849603156658622d3bac62029a4458cfcd429432cadb053ea5a6", func := "loop.example/g01111/laws.FnExactNewConsole", spec := "fnExactNewConsole", apart := false }
def FnExactNewConsoleSaid : Prop := fnExactNewConsoleRow.holds Try.pinned (OpenSpec.ofChange fnExactNewConsoleSpec)

/-- ITS FALSE NEIGHBOUR: 'it returns false'. Refute it at one input. -/
def fnExactNewConsoleWrong : ChangeSpec := { name := "fnExactNewConsole", fn := fun _ => fun
  | [d] => { results := [.lit (.bool false)], args := [d] }
  | _ => none }
def FnExactNewConsoleWrongFalsely : Prop := fnExactNewConsoleRow.holds Try.pinned (OpenSpec.ofChange fnExactNewConsoleWrong)

/-- 'laws.FnExactBestCost': WHATEVER THE INPUT: true; the input reads as it did. -/
def fnExactBestCostSpec : ChangeSpec := { name := "fnExactBestCost", fn := fun _ => fun
  | [d] => { results := [.lit (.bool true)], args := [d] }
  | _ => none }
def fnExactBestCostRow : OpenClaim := { program := "ytplnbkfgedjjkaa", sum := "975c4d2c5fa2849603156658622d3bac62029a4458cfcd429432cadb053ea5a6", func := "loop.example/g01111/laws.FnExactBestCost", spec := "fnExactBestCost", apart := false }
def FnExactBestCostSaid : Prop := fnExactBestCostRow.holds Try.pinned (OpenSpec.ofChange fnExactBestCostSpec)

/-- ITS FALSE NEIGHBOUR: 'it returns false'. Refute it at one input. -/
def fnExactBestCostWrong : ChangeSpec := { name := "fnExactBestCost", fn := fun _ => fun
  | [d] => { results := [.lit (.bool false)], args := [d] }
  | _ => none }
def FnExactBestCostWrongFalsely : Prop := fnExactBestCostRow.holds Try.pinned (OpenSpec.ofChange fnExactBestCostWrong)

/-- 'laws.FnExactRuleGap': WHATEVER THE INPUT: true; the input reads as it did. -/
def fnExactRuleGapSpec : ChangeSpec := { name := "fnExactRuleGap", fn := fun _ => fun
  | [d1, d2] => { results := [.lit (.bool true)], args := [d1, d2] }
  | _ => none }
def fnExactRuleGapRow : OpenClaim := { program := "ytplnbkfgedjjkaa", sum := "975c4d2c5fa2849603156658622d3bac62029a4458cfcd429432cadb053ea5a6", func := "loop.example/g01111/laws.FnExactRuleGap", spec := "fnExactRuleGap", apart := false }
def FnExactRuleGapSaid : Prop := fnExactRuleGapRow.holds Try.pinned (OpenSpec.ofChange fnExactRuleGapSpec)

/-- ITS FALSE NEIGHBOUR: 'it returns false'. Refute it at one input. -/
def fnExactRuleGapWrong : ChangeSpec := { name := "fnExactRuleGap", fn := fun _ => fun
  | [d1, d2] => { results := [.lit (.bool false)], args := [d1, d2] }
  | _ => none }
def FnExactRuleGapWrongFalsely : Prop := fnExactRuleGapRow.holds Try.pinned (OpenSpec.ofChange fnExactRuleGapWrong)

/- THE SECOND FORM. 'bulk': how many values and letters a reading holds, each counted each time it is reached (what is shared counts as often as it is met; a slice's spare places count too). A statement '..UptoSaid' is the law's where the arguments, and the package variables that the reading takes, are together of bulk at most 1048576: NARROWER than '..Said'. Prove '..Said' where nothing that the law and all that it calls make is longer than what came in: it says more and counts as full. Else prove '..UptoSaid'. A law counts once. -/
mutual
def uptoBulk {H : Type} : DataW H → Nat
  | .lit (.string bytes) => bytes.length + 1
  | .lit _ => 1
  | .nil => 1
  | .ptr d => uptoBulk d + 1
  | .slice elems spare => uptoBulkAll elems + uptoBulkAll spare + 1
  | .agg parts => uptoBulkAll parts + 1
  | .iface _ d => uptoBulk d + 1
  | .map entries => uptoBulkEntries entries + 1
  | .held _ => 1
def uptoBulkAll {H : Type} : List (DataW H) → Nat
  | [] => 0
  | d :: r => uptoBulk d + uptoBulkAll r
def uptoBulkEntries {H : Type} : List (Lit × DataW H) → Nat
  | [] => 0
  | x :: r => uptoBulkEntry x + uptoBulkEntries r
def uptoBulkEntry {H : Type} : Lit × DataW H → Nat
  | (.string bytes, d) => bytes.length + uptoBulk d + 1
  | (_, d) => uptoBulk d + 1
 end
def uptoSmall : (H : Type) → List (DataW H) → Bool := fun _ ds => decide (uptoBulkAll ds ≤ 1048576)
def OpenSpec.upto (s : _root_.Go.ChangeSpec) : _root_.Go.OpenSpec := { _root_.Go.OpenSpec.ofChange s with cond := some uptoSmall }

/-- 'laws.FnExactChainCost', WHERE WHAT IT READS IS OF BULK AT MOST 1048576: true; the input reads as it did. -/
def fnExactChainCostUptoRow : OpenClaim := { program := "ytplnbkfgedjjkaa", sum := "975c4d2c5fa2849603156658622d3bac62029a4458cfcd429432cadb053ea5a6", func := "loop.example/g01111/laws.FnExactChainCost", spec := "fnExactChainCost", apart := false, narrowed := true }
def FnExactChainCostUptoSaid : Prop := fnExactChainCostUptoRow.holds Try.pinned (OpenSpec.upto fnExactChainCostSpec)

/-- 'laws.FnFairPrices', WHERE WHAT IT READS IS OF BULK AT MOST 1048576: true; the input reads as it did. -/
def fnFairPricesUptoRow : OpenClaim := { program := "ytplnbkfgedjjkaa", sum := "975c4d2c5fa2849603156658622d3bac62029a4458cfcd429432cadb053ea5a6", func := "loop.example/g01111/laws.FnFairPrices", spec := "fnFairPrices", apart := false, narrowed := true }
def FnFairPricesUptoSaid : Prop := fnFairPricesUptoRow.holds Try.pinned (OpenSpec.upto fnFairPricesSpec)

/-- 'laws.FnExactSmoothPlan', WHERE WHAT IT READS IS OF BULK AT MOST 1048576: true; the input reads as it did. -/
def fnExactSmoothPlanUptoRow : OpenClaim := { program := "ytplnbkfgedjjkaa", sum := "975c4d2c5fa2849603156658622d3bac62029a4458cfcd429432cadb053ea5a6", func := "loop.example/g01111/laws.FnExactSmoothPlan", spec := "fnExactSmoothPlan", apart := false, narrowed := true }
def FnExactSmoothPlanUptoSaid : Prop := fnExactSmoothPlanUptoRow.holds Try.pinned (OpenSpec.upto fnExactSmoothPlanSpec)

/-- 'laws.FnExactNewConsole', WHERE WHAT IT READS IS OF BULK AT MOST 1048576: true; the input reads as it did. -/
def fnExactNewConsoleUptoRow : OpenClaim := { program := "ytplnbkfgedjjkaa", sum := "975c4d2c5fa2849603156658622d3bac62029a4458cfcd429432cadb053ea5a6", func := "loop.example/g01111/laws.FnExactNewConsole", spec := "fnExactNewConsole", apart := false, narrowed := true }
def FnExactNewConsoleUptoSaid : Prop := fnExactNewConsoleUptoRow.holds Try.pinned (OpenSpec.upto fnExactNewConsoleSpec)

/-- 'laws.FnExactBestCost', WHERE WHAT IT READS IS OF BULK AT MOST 1048576: true; the input reads as it did. -/
def fnExactBestCostUptoRow : OpenClaim := { program := "ytplnbkfgedjjkaa", sum := "975c4d2c5fa2849603156658622d3bac62029a4458cfcd429432cadb053ea5a6", func := "loop.example/g01111/laws.FnExactBestCost", spec := "fnExactBestCost", apart := false, narrowed := true }
def FnExactBestCostUptoSaid : Prop := fnExactBestCostUptoRow.holds Try.pinned (OpenSpec.upto fnExactBestCostSpec)

/-- 'laws.FnExactRuleGap', WHERE WHAT IT READS IS OF BULK AT MOST 1048576: true; the input reads as it did. -/
def fnExactRuleGapUptoRow : OpenClaim := { program := "ytplnbkfgedjjkaa", sum := "975c4d2c5fa2849603156658622d3bac62029a4458cfcd429432cadb053ea5a6", func := "loop.example/g01111/laws.FnExactRuleGap", spec := "fnExactRuleGap", apart := false, narrowed := true }
def FnExactRuleGapUptoSaid : Prop := fnExactRuleGapUptoRow.holds Try.pinned (OpenSpec.upto fnExactRuleGapSpec)

end Rows
end Go.Proofs.Ytplnbkfgedjjkaa
