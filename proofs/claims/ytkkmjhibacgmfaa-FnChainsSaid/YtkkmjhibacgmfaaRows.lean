/-
  No cell of these rows narrows 'for every input' (looked for: loops, veiled, ifaces, maps, wideKeys, modest, calm, conditions, laid).
  DERIVED. THE GIVEN ROWS OF THIS SEAT. 6 by the template 'for every input the law returns true; each argument reads behind the call as it read before'; 0 by the template 'total and deterministic' (their statements: YtkkmjhibacgmfaaTotals.lean).
  GIVEN WITH THE SEED: the statements are not yours to turn. If you find one false, say at which input.
  Laid BY PROGRAM, IN A SANDBOX (cutbox-rows.mjs): the forced cells as the released guide's own fill.sh prints them over the translation d0a45750b38d24f8… (all of the seat's roots in one cut). By AI agents, Wed Nov 11 2026. No macro, syntax, notation, axiom, sorry.
-/
import Derived.Test.YtkkmjhibacgmfaaChecked
import GoSem.Claim
import GoSem.ClaimJoined
import GoSem.ClaimMapViews
import Derived.JoinedTies
import Derived.KernelRfl
namespace Go.Proofs.Ytkkmjhibacgmfaa
/- THE CELL 'sum', in the pinned program and in every row, IS THE sha256 OF THE DUMP (.gsa) THAT YtkkmjhibacgmfaaProg.lean LOADS. Nothing in Lean hashes anything: it is a label: what it is worth is what the hold of that sum in a sandbox is worth. -/
noncomputable def Try.pinned : Pinned := { name := "ytkkmjhibacgmfaa", sum := "d0a45750b38d24f89c2946e3ad996392c0f57310c5a14757c23f4b6f93053ee4", checked := Try.checked }
namespace Rows
def none {H : Type} : Left H := { results := [], args := [] }

/-- 'laws.FnExactBestAssembly': WHATEVER THE INPUT: true; the input reads as it did. -/
def fnExactBestAssemblySpec : ChangeSpec := { name := "fnExactBestAssembly", fn := fun _ => fun
  | [d1, d2, d3] => { results := [.lit (.bool true)], args := [d1, d2, d3] }
  | _ => none }
def fnExactBestAssemblyRow : OpenClaim := { program := "ytkkmjhibacgmfaa", sum := "d0a45750b38d24f89c2946e3ad996392c0f57310c5a14757c23f4b6f93053ee4", func := "loop.example/g01111/laws.FnExactBestAssembly", spec := "fnExactBestAssembly", apart := false }
def FnExactBestAssemblySaid : Prop := fnExactBestAssemblyRow.holds Try.pinned (OpenSpec.ofChange fnExactBestAssemblySpec)

/-- ITS FALSE NEIGHBOUR: 'it returns false'. Refute it at one input. -/
def fnExactBestAssemblyWrong : ChangeSpec := { name := "fnExactBestAssembly", fn := fun _ => fun
  | [d1, d2, d3] => { results := [.lit (.bool false)], args := [d1, d2, d3] }
  | _ => none }
def FnExactBestAssemblyWrongFalsely : Prop := fnExactBestAssemblyRow.holds Try.pinned (OpenSpec.ofChange fnExactBestAssemblyWrong)

/-- 'laws.FnExactBestChainCost': WHATEVER THE INPUT: true; the input reads as it did. -/
def fnExactBestChainCostSpec : ChangeSpec := { name := "fnExactBestChainCost", fn := fun _ => fun
  | [d] => { results := [.lit (.bool true)], args := [d] }
  | _ => none }
def fnExactBestChainCostRow : OpenClaim := { program := "ytkkmjhibacgmfaa", sum := "d0a45750b38d24f89c2946e3ad996392c0f57310c5a14757c23f4b6f93053ee4", func := "loop.example/g01111/laws.FnExactBestChainCost", spec := "fnExactBestChainCost", unfollowed := true, recurses := true, apart := false }
def FnExactBestChainCostSaid : Prop := fnExactBestChainCostRow.holds Try.pinned (OpenSpec.ofChange fnExactBestChainCostSpec)

/-- ITS FALSE NEIGHBOUR: 'it returns false'. Refute it at one input. -/
def fnExactBestChainCostWrong : ChangeSpec := { name := "fnExactBestChainCost", fn := fun _ => fun
  | [d] => { results := [.lit (.bool false)], args := [d] }
  | _ => none }
def FnExactBestChainCostWrongFalsely : Prop := fnExactBestChainCostRow.holds Try.pinned (OpenSpec.ofChange fnExactBestChainCostWrong)

/-- 'laws.FnExactStagewisePlan': WHATEVER THE INPUT: true; the input reads as it did. -/
def fnExactStagewisePlanSpec : ChangeSpec := { name := "fnExactStagewisePlan", fn := fun _ => fun
  | [d] => { results := [.lit (.bool true)], args := [d] }
  | _ => none }
def fnExactStagewisePlanRow : OpenClaim := { program := "ytkkmjhibacgmfaa", sum := "d0a45750b38d24f89c2946e3ad996392c0f57310c5a14757c23f4b6f93053ee4", func := "loop.example/g01111/laws.FnExactStagewisePlan", spec := "fnExactStagewisePlan", apart := false }
def FnExactStagewisePlanSaid : Prop := fnExactStagewisePlanRow.holds Try.pinned (OpenSpec.ofChange fnExactStagewisePlanSpec)

/-- ITS FALSE NEIGHBOUR: 'it returns false'. Refute it at one input. -/
def fnExactStagewisePlanWrong : ChangeSpec := { name := "fnExactStagewisePlan", fn := fun _ => fun
  | [d] => { results := [.lit (.bool false)], args := [d] }
  | _ => none }
def FnExactStagewisePlanWrongFalsely : Prop := fnExactStagewisePlanRow.holds Try.pinned (OpenSpec.ofChange fnExactStagewisePlanWrong)

/-- 'laws.FnExactBestNested': WHATEVER THE INPUT: true; the input reads as it did. -/
def fnExactBestNestedSpec : ChangeSpec := { name := "fnExactBestNested", fn := fun _ => fun
  | [d] => { results := [.lit (.bool true)], args := [d] }
  | _ => none }
def fnExactBestNestedRow : OpenClaim := { program := "ytkkmjhibacgmfaa", sum := "d0a45750b38d24f89c2946e3ad996392c0f57310c5a14757c23f4b6f93053ee4", func := "loop.example/g01111/laws.FnExactBestNested", spec := "fnExactBestNested", unfollowed := true, recurses := true, apart := false }
def FnExactBestNestedSaid : Prop := fnExactBestNestedRow.holds Try.pinned (OpenSpec.ofChange fnExactBestNestedSpec)

/-- ITS FALSE NEIGHBOUR: 'it returns false'. Refute it at one input. -/
def fnExactBestNestedWrong : ChangeSpec := { name := "fnExactBestNested", fn := fun _ => fun
  | [d] => { results := [.lit (.bool false)], args := [d] }
  | _ => none }
def FnExactBestNestedWrongFalsely : Prop := fnExactBestNestedRow.holds Try.pinned (OpenSpec.ofChange fnExactBestNestedWrong)

/-- 'laws.FnAssemblies': WHATEVER THE INPUT: true; the input reads as it did. -/
def fnAssembliesSpec : ChangeSpec := { name := "fnAssemblies", fn := fun _ => fun
  | [d] => { results := [.lit (.bool true)], args := [d] }
  | _ => none }
def fnAssembliesRow : OpenClaim := { program := "ytkkmjhibacgmfaa", sum := "d0a45750b38d24f89c2946e3ad996392c0f57310c5a14757c23f4b6f93053ee4", func := "loop.example/g01111/laws.FnAssemblies", spec := "fnAssemblies", unfollowed := true, recurses := true, apart := false }
def FnAssembliesSaid : Prop := fnAssembliesRow.holds Try.pinned (OpenSpec.ofChange fnAssembliesSpec)

/-- ITS FALSE NEIGHBOUR: 'it returns false'. Refute it at one input. -/
def fnAssembliesWrong : ChangeSpec := { name := "fnAssemblies", fn := fun _ => fun
  | [d] => { results := [.lit (.bool false)], args := [d] }
  | _ => none }
def FnAssembliesWrongFalsely : Prop := fnAssembliesRow.holds Try.pinned (OpenSpec.ofChange fnAssembliesWrong)

/-- 'laws.FnChains': WHATEVER THE INPUT: true; the input reads as it did. -/
def fnChainsSpec : ChangeSpec := { name := "fnChains", fn := fun _ => fun
  | [d] => { results := [.lit (.bool true)], args := [d] }
  | _ => none }
def fnChainsRow : OpenClaim := { program := "ytkkmjhibacgmfaa", sum := "d0a45750b38d24f89c2946e3ad996392c0f57310c5a14757c23f4b6f93053ee4", func := "loop.example/g01111/laws.FnChains", spec := "fnChains", unfollowed := true, recurses := true, apart := false }
def FnChainsSaid : Prop := fnChainsRow.holds Try.pinned (OpenSpec.ofChange fnChainsSpec)

/-- ITS FALSE NEIGHBOUR: 'it returns false'. Refute it at one input. -/
def fnChainsWrong : ChangeSpec := { name := "fnChains", fn := fun _ => fun
  | [d] => { results := [.lit (.bool false)], args := [d] }
  | _ => none }
def FnChainsWrongFalsely : Prop := fnChainsRow.holds Try.pinned (OpenSpec.ofChange fnChainsWrong)

/- THE SECOND FORM. 'bulk': how many values and letters a reading holds, each counted each time it is reached (what is shared counts as often as it is met; a slice's spare places count too). A statement '..UptoSaid' is the law's where the arguments, and the package variables that the reading takes, are together of bulk at most 1048576: NARROWER than '..Said'. Prove '..Said' where nothing that the law and all that it calls make is longer than what came in: it says more and counts as full. Else prove '..UptoSaid'. A law counts once. -/
mutual
def uptoBulk {H : Type} : DataW H → Nat
  | .lit (.string bytes) => bytes.length + 1
  | .lit _ => 1
  | .nil => 1
  | .ptr d => uptoBulk d + 1
  | .slice elems spare => uptoBulkAll elems + uptoBulkAll spare + 1
  | .agg parts => uptoBulkAll parts + 1
  | .iface _ d => uptoBulk d + 1
  | .map entries => uptoBulkEntries entries + 1
  | .held _ => 1
def uptoBulkAll {H : Type} : List (DataW H) → Nat
  | [] => 0
  | d :: r => uptoBulk d + uptoBulkAll r
def uptoBulkEntries {H : Type} : List (Lit × DataW H) → Nat
  | [] => 0
  | x :: r => uptoBulkEntry x + uptoBulkEntries r
def uptoBulkEntry {H : Type} : Lit × DataW H → Nat
  | (.string bytes, d) => bytes.length + uptoBulk d + 1
  | (_, d) => uptoBulk d + 1
 end
def uptoSmall : (H : Type) → List (DataW H) → Bool := fun _ ds => decide (uptoBulkAll ds ≤ 1048576)
def OpenSpec.upto (s : _root_.Go.ChangeSpec) : _root_.Go.OpenSpec := { _root_.Go.OpenSpec.ofChange s with cond := some uptoSmall }

/-- 'laws.FnExactBestAssembly', WHERE WHAT IT READS IS OF BULK AT MOST 1048576: true; the input reads as it did. -/
def fnExactBestAssemblyUptoRow : OpenClaim := { program := "ytkkmjhibacgmfaa", sum := "d0a45750b38d24f89c2946e3ad996392c0f57310c5a14757c23f4b6f93053ee4", func := "loop.example/g01111/laws.FnExactBestAssembly", spec := "fnExactBestAssembly", apart := false, narrowed := true }
def FnExactBestAssemblyUptoSaid : Prop := fnExactBestAssemblyUptoRow.holds Try.pinned (OpenSpec.upto fnExactBestAssemblySpec)

/-- 'laws.FnExactBestChainCost', WHERE WHAT IT READS IS OF BULK AT MOST 1048576: true; the input reads as it did. -/
def fnExactBestChainCostUptoRow : OpenClaim := { program := "ytkkmjhibacgmfaa", sum := "d0a45750b38d24f89c2946e3ad996392c0f57310c5a14757c23f4b6f93053ee4", func := "loop.example/g01111/laws.FnExactBestChainCost", spec := "fnExactBestChainCost", unfollowed := true, recurses := true, apart := false, narrowed := true }
def FnExactBestChainCostUptoSaid : Prop := fnExactBestChainCostUptoRow.holds Try.pinned (OpenSpec.upto fnExactBestChainCostSpec)

/-- 'laws.FnExactStagewisePlan', WHERE WHAT IT READS IS OF BULK AT MOST 1048576: true; the input reads as it did. -/
def fnExactStagewisePlanUptoRow : OpenClaim := { program := "ytkkmjhibacgmfaa", sum := "d0a45750b38d24f89c2946e3ad996392c0f57310c5a14757c23f4b6f93053ee4", func := "loop.example/g01111/laws.FnExactStagewisePlan", spec := "fnExactStagewisePlan", apart := false, narrowed := true }
def FnExactStagewisePlanUptoSaid : Prop := fnExactStagewisePlanUptoRow.holds Try.pinned (OpenSpec.upto fnExactStagewisePlanSpec)

/-- 'laws.FnExactBestNested', WHERE WHAT IT READS IS OF BULK AT MOST 1048576: true; the input reads as it did. -/
def fnExactBestNestedUptoRow : OpenClaim := { program := "ytkkmjhibacgmfaa", sum := "d0a45750b38d24f89c2946e3ad996392c0f57310c5a14757c23f4b6f93053ee4", func := "loop.example/g01111/laws.FnExactBestNested", spec := "fnExactBestNested", unfollowed := true, recurses := true, apart := false, narrowed := true }
def FnExactBestNestedUptoSaid : Prop := fnExactBestNestedUptoRow.holds Try.pinned (OpenSpec.upto fnExactBestNestedSpec)

/-- 'laws.FnAssemblies', WHERE WHAT IT READS IS OF BULK AT MOST 1048576: true; the input reads as it did. -/
def fnAssembliesUptoRow : OpenClaim := { program := "ytkkmjhibacgmfaa", sum := "d0a45750b38d24f89c2946e3ad996392c0f57310c5a14757c23f4b6f93053ee4", func := "loop.example/g01111/laws.FnAssemblies", spec := "fnAssemblies", unfollowed := true, recurses := true, apart := false, narrowed := true }
def FnAssembliesUptoSaid : Prop := fnAssembliesUptoRow.holds Try.pinned (OpenSpec.upto fnAssembliesSpec)

/-- 'laws.FnChains', WHERE WHAT IT READS IS OF BULK AT MOST 1048576: true; the input reads as it did. -/
def fnChainsUptoRow : OpenClaim := { program := "ytkkmjhibacgmfaa", sum := "d0a45750b38d24f89c2946e3ad996392c0f57310c5a14757c23f4b6f93053ee4", func := "loop.example/g01111/laws.FnChains", spec := "fnChains", unfollowed := true, recurses := true, apart := false, narrowed := true }
def FnChainsUptoSaid : Prop := fnChainsUptoRow.holds Try.pinned (OpenSpec.upto fnChainsSpec)

end Rows
end Go.Proofs.Ytkkmjhibacgmfaa
