/-
  No cell of these rows narrows 'for every input' (looked for: loops, veiled, ifaces, maps, wideKeys, modest, calm, conditions, laid).
  DERIVED. THE GIVEN ROWS OF THIS SEAT. 5 by the template 'for every input the law returns true; each argument reads behind the call as it read before'; 0 by the template 'total and deterministic' (their statements: YtkahcjhdjnaecaaTotals.lean).
  GIVEN WITH THE SEED: the statements are not yours to turn. If you find one false, say at which input.
  Laid BY PROGRAM, IN A SANDBOX (cutbox-rows.mjs): the forced cells as the released guide's own fill.sh prints them over the translation b4d4e46b74e5f974… (all of the seat's roots in one cut). By AI agents, Wed Nov 11 2026. No macro, syntax, notation, axiom, sorry.
-/
import Derived.Test.YtkahcjhdjnaecaaChecked
import GoSem.Claim
import GoSem.ClaimJoined
import GoSem.ClaimMapViews
import Derived.JoinedTies
import Derived.KernelRfl
namespace Go.Proofs.Ytkahcjhdjnaecaa
/- THE CELL 'sum', in the pinned program and in every row, IS THE sha256 OF THE DUMP (.gsa) THAT YtkahcjhdjnaecaaProg.lean LOADS. Nothing in Lean hashes anything: it is a label: what it is worth is what the hold of that sum in a sandbox is worth. -/
noncomputable def Try.pinned : Pinned := { name := "ytkahcjhdjnaecaa", sum := "b4d4e46b74e5f97432783b294089f9bf8e38ee899f10da79dca373e26e13a554", checked := Try.checked }
namespace Rows
def none {H : Type} : Left H := { results := [], args := [] }

/-- 'laws.FnForwardCosts': WHATEVER THE INPUT: true; the input reads as it did. -/
def fnForwardCostsSpec : ChangeSpec := { name := "fnForwardCosts", fn := fun _ => fun
  | [d] => { results := [.lit (.bool true)], args := [d] }
  | _ => none }
def fnForwardCostsRow : OpenClaim := { program := "ytkahcjhdjnaecaa", sum := "b4d4e46b74e5f97432783b294089f9bf8e38ee899f10da79dca373e26e13a554", func := "loop.example/g01111/laws.FnForwardCosts", spec := "fnForwardCosts", apart := false }
def FnForwardCostsSaid : Prop := fnForwardCostsRow.holds Try.pinned (OpenSpec.ofChange fnForwardCostsSpec)

/-- ITS FALSE NEIGHBOUR: 'it returns false'. Refute it at one input. -/
def fnForwardCostsWrong : ChangeSpec := { name := "fnForwardCosts", fn := fun _ => fun
  | [d] => { results := [.lit (.bool false)], args := [d] }
  | _ => none }
def FnForwardCostsWrongFalsely : Prop := fnForwardCostsRow.holds Try.pinned (OpenSpec.ofChange fnForwardCostsWrong)

/-- 'laws.FnRules': WHATEVER THE INPUT: true; the input reads as it did. -/
def fnRulesSpec : ChangeSpec := { name := "fnRules", fn := fun _ => fun
  | [d] => { results := [.lit (.bool true)], args := [d] }
  | _ => none }
def fnRulesRow : OpenClaim := { program := "ytkahcjhdjnaecaa", sum := "b4d4e46b74e5f97432783b294089f9bf8e38ee899f10da79dca373e26e13a554", func := "loop.example/g01111/laws.FnRules", spec := "fnRules", apart := false }
def FnRulesSaid : Prop := fnRulesRow.holds Try.pinned (OpenSpec.ofChange fnRulesSpec)

/-- ITS FALSE NEIGHBOUR: 'it returns false'. Refute it at one input. -/
def fnRulesWrong : ChangeSpec := { name := "fnRules", fn := fun _ => fun
  | [d] => { results := [.lit (.bool false)], args := [d] }
  | _ => none }
def FnRulesWrongFalsely : Prop := fnRulesRow.holds Try.pinned (OpenSpec.ofChange fnRulesWrong)

/-- 'laws.FnLatePlans': WHATEVER THE INPUT: true; the input reads as it did. -/
def fnLatePlansSpec : ChangeSpec := { name := "fnLatePlans", fn := fun _ => fun
  | [d] => { results := [.lit (.bool true)], args := [d] }
  | _ => none }
def fnLatePlansRow : OpenClaim := { program := "ytkahcjhdjnaecaa", sum := "b4d4e46b74e5f97432783b294089f9bf8e38ee899f10da79dca373e26e13a554", func := "loop.example/g01111/laws.FnLatePlans", spec := "fnLatePlans", unfollowed := true, recurses := true, apart := false }
def FnLatePlansSaid : Prop := fnLatePlansRow.holds Try.pinned (OpenSpec.ofChange fnLatePlansSpec)

/-- ITS FALSE NEIGHBOUR: 'it returns false'. Refute it at one input. -/
def fnLatePlansWrong : ChangeSpec := { name := "fnLatePlans", fn := fun _ => fun
  | [d] => { results := [.lit (.bool false)], args := [d] }
  | _ => none }
def FnLatePlansWrongFalsely : Prop := fnLatePlansRow.holds Try.pinned (OpenSpec.ofChange fnLatePlansWrong)

/-- 'laws.FnExactBestNested': WHATEVER THE INPUT: true; the input reads as it did. -/
def fnExactBestNestedSpec : ChangeSpec := { name := "fnExactBestNested", fn := fun _ => fun
  | [d] => { results := [.lit (.bool true)], args := [d] }
  | _ => none }
def fnExactBestNestedRow : OpenClaim := { program := "ytkahcjhdjnaecaa", sum := "b4d4e46b74e5f97432783b294089f9bf8e38ee899f10da79dca373e26e13a554", func := "loop.example/g01111/laws.FnExactBestNested", spec := "fnExactBestNested", unfollowed := true, recurses := true, apart := false }
def FnExactBestNestedSaid : Prop := fnExactBestNestedRow.holds Try.pinned (OpenSpec.ofChange fnExactBestNestedSpec)

/-- ITS FALSE NEIGHBOUR: 'it returns false'. Refute it at one input. -/
def fnExactBestNestedWrong : ChangeSpec := { name := "fnExactBestNested", fn := fun _ => fun
  | [d] => { results := [.lit (.bool false)], args := [d] }
  | _ => none }
def FnExactBestNestedWrongFalsely : Prop := fnExactBestNestedRow.holds Try.pinned (OpenSpec.ofChange fnExactBestNestedWrong)

/-- 'laws.FnBestPlans': WHATEVER THE INPUT: true; the input reads as it did. -/
def fnBestPlansSpec : ChangeSpec := { name := "fnBestPlans", fn := fun _ => fun
  | [d] => { results := [.lit (.bool true)], args := [d] }
  | _ => none }
def fnBestPlansRow : OpenClaim := { program := "ytkahcjhdjnaecaa", sum := "b4d4e46b74e5f97432783b294089f9bf8e38ee899f10da79dca373e26e13a554", func := "loop.example/g01111/laws.FnBestPlans", spec := "fnBestPlans", apart := false }
def FnBestPlansSaid : Prop := fnBestPlansRow.holds Try.pinned (OpenSpec.ofChange fnBestPlansSpec)

/-- ITS FALSE NEIGHBOUR: 'it returns false'. Refute it at one input. -/
def fnBestPlansWrong : ChangeSpec := { name := "fnBestPlans", fn := fun _ => fun
  | [d] => { results := [.lit (.bool false)], args := [d] }
  | _ => none }
def FnBestPlansWrongFalsely : Prop := fnBestPlansRow.holds Try.pinned (OpenSpec.ofChange fnBestPlansWrong)

/- THE SECOND FORM. 'bulk': how many values and letters a reading holds, each counted each time it is reached (what is shared counts as often as it is met; a slice's spare places count too). A statement '..UptoSaid' is the law's where the arguments, and the package variables that the reading takes, are together of bulk at most 1048576: NARROWER than '..Said'. Prove '..Said' where nothing that the law and all that it calls make is longer than what came in: it says more and counts as full. Else prove '..UptoSaid'. A law counts once. -/
mutual
def uptoBulk {H : Type} : DataW H → Nat
  | .lit (.string bytes) => bytes.length + 1
  | .lit _ => 1
  | .nil => 1
  | .ptr d => uptoBulk d + 1
  | .slice elems spare => uptoBulkAll elems + uptoBulkAll spare + 1
  | .agg parts => uptoBulkAll parts + 1
  | .iface _ d => uptoBulk d + 1
  | .map entries => uptoBulkEntries entries + 1
  | .held _ => 1
def uptoBulkAll {H : Type} : List (DataW H) → Nat
  | [] => 0
  | d :: r => uptoBulk d + uptoBulkAll r
def uptoBulkEntries {H : Type} : List (Lit × DataW H) → Nat
  | [] => 0
  | x :: r => uptoBulkEntry x + uptoBulkEntries r
def uptoBulkEntry {H : Type} : Lit × DataW H → Nat
  | (.string bytes, d) => bytes.length + uptoBulk d + 1
  | (_, d) => uptoBulk d + 1
 end
def uptoSmall : (H : Type) → List (DataW H) → Bool := fun _ ds => decide (uptoBulkAll ds ≤ 1048576)
def OpenSpec.upto (s : _root_.Go.ChangeSpec) : _root_.Go.OpenSpec := { _root_.Go.OpenSpec.ofChange s with cond := some uptoSmall }

/-- 'laws.FnForwardCosts', WHERE WHAT IT READS IS OF BULK AT MOST 1048576: true; the input reads as it did. -/
def fnForwardCostsUptoRow : OpenClaim := { program := "ytkahcjhdjnaecaa", sum := "b4d4e46b74e5f97432783b294089f9bf8e38ee899f10da79dca373e26e13a554", func := "loop.example/g01111/laws.FnForwardCosts", spec := "fnForwardCosts", apart := false, narrowed := true }
def FnForwardCostsUptoSaid : Prop := fnForwardCostsUptoRow.holds Try.pinned (OpenSpec.upto fnForwardCostsSpec)

/-- 'laws.FnRules', WHERE WHAT IT READS IS OF BULK AT MOST 1048576: true; the input reads as it did. -/
def fnRulesUptoRow : OpenClaim := { program := "ytkahcjhdjnaecaa", sum := "b4d4e46b74e5f97432783b294089f9bf8e38ee899f10da79dca373e26e13a554", func := "loop.example/g01111/laws.FnRules", spec := "fnRules", apart := false, narrowed := true }
def FnRulesUptoSaid : Prop := fnRulesUptoRow.holds Try.pinned (OpenSpec.upto fnRulesSpec)

/-- 'laws.FnLatePlans', WHERE WHAT IT READS IS OF BULK AT MOST 1048576: true; the input reads as it did. -/
def fnLatePlansUptoRow : OpenClaim := { program := "ytkahcjhdjnaecaa", sum := "b4d4e46b74e5f97432783b294089f9bf8e38ee899f10da79dca373e26e13a554", func := "loop.example/g01111/laws.FnLatePlans", spec := "fnLatePlans", unfollowed := true, recurses := true, apart := false, narrowed := true }
def FnLatePlansUptoSaid : Prop := fnLatePlansUptoRow.holds Try.pinned (OpenSpec.upto fnLatePlansSpec)

/-- 'laws.FnExactBestNested', WHERE WHAT IT READS IS OF BULK AT MOST 1048576: true; the input reads as it did. -/
def fnExactBestNestedUptoRow : OpenClaim := { program := "ytkahcjhdjnaecaa", sum := "b4d4e46b74e5f97432783b294089f9bf8e38ee899f10da79dca373e26e13a554", func := "loop.example/g01111/laws.FnExactBestNested", spec := "fnExactBestNested", unfollowed := true, recurses := true, apart := false, narrowed := true }
def FnExactBestNestedUptoSaid : Prop := fnExactBestNestedUptoRow.holds Try.pinned (OpenSpec.upto fnExactBestNestedSpec)

/-- 'laws.FnBestPlans', WHERE WHAT IT READS IS OF BULK AT MOST 1048576: true; the input reads as it did. -/
def fnBestPlansUptoRow : OpenClaim := { program := "ytkahcjhdjnaecaa", sum := "b4d4e46b74e5f97432783b294089f9bf8e38ee899f10da79dca373e26e13a554", func := "loop.example/g01111/laws.FnBestPlans", spec := "fnBestPlans", apart := false, narrowed := true }
def FnBestPlansUptoSaid : Prop := fnBestPlansUptoRow.holds Try.pinned (OpenSpec.upto fnBestPlansSpec)

end Rows
end Go.Proofs.Ytkahcjhdjnaecaa
