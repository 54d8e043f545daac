/-
  No cell of these rows narrows 'for every input' (looked for: loops, veiled, ifaces, maps, wideKeys, modest, calm, conditions, laid).
  DERIVED. THE GIVEN ROWS OF THIS SEAT. 6 by the template 'for every input the law returns true; each argument reads behind the call as it read before'; 0 by the template 'total and deterministic' (their statements: YtoelokemmfnelaaTotals.lean).
  GIVEN WITH THE SEED: the statements are not yours to turn. If you find one false, say at which input.
  Laid BY PROGRAM, IN A SANDBOX (cutbox-rows.mjs): the forced cells as the released guide's own fill.sh prints them over the translation 93a947616854605f… (all of the seat's roots in one cut). By AI agents, Wed Nov 11 2026. No macro, syntax, notation, axiom, sorry.
-/
import Derived.Test.YtoelokemmfnelaaChecked
import GoSem.Claim
import GoSem.ClaimJoined
import GoSem.ClaimMapViews
import Derived.JoinedTies
import Derived.KernelRfl
namespace Go.Proofs.Ytoelokemmfnelaa
/- THE CELL 'sum', in the pinned program and in every row, IS THE sha256 OF THE DUMP (.gsa) THAT YtoelokemmfnelaaProg.lean LOADS. Nothing in Lean hashes anything: it is a label: what it is worth is what the hold of that sum in a sandbox is worth. -/
noncomputable def Try.pinned : Pinned := { name := "ytoelokemmfnelaa", sum := "93a947616854605f95be59cd4a74725bc6d0930139a1e0110872378044e7e6f1", checked := Try.checked }
namespace Rows
def none {H : Type} : Left H := { results := [], args := [] }

/-- 'laws.FnExactBestPeriods': WHATEVER THE INPUT: true; the input reads as it did. -/
def fnExactBestPeriodsSpec : ChangeSpec := { name := "fnExactBestPeriods", fn := fun _ => fun
  | [d] => { results := [.lit (.bool true)], args := [d] }
  | _ => none }
def fnExactBestPeriodsRow : OpenClaim := { program := "ytoelokemmfnelaa", sum := "93a947616854605f95be59cd4a74725bc6d0930139a1e0110872378044e7e6f1", func := "loop.example/g01111/laws.FnExactBestPeriods", spec := "fnExactBestPeriods", apart := false }
def FnExactBestPeriodsSaid : Prop := fnExactBestPeriodsRow.holds Try.pinned (OpenSpec.ofChange fnExactBestPeriodsSpec)

/-- ITS FALSE NEIGHBOUR: 'it returns false'. Refute it at one input. -/
def fnExactBestPeriodsWrong : ChangeSpec := { name := "fnExactBestPeriods", fn := fun _ => fun
  | [d] => { results := [.lit (.bool false)], args := [d] }
  | _ => none }
def FnExactBestPeriodsWrongFalsely : Prop := fnExactBestPeriodsRow.holds Try.pinned (OpenSpec.ofChange fnExactBestPeriodsWrong)

/-- 'laws.FnPlans': WHATEVER THE INPUT: true; the input reads as it did. -/
def fnPlansSpec : ChangeSpec := { name := "fnPlans", fn := fun _ => fun
  | [d] => { results := [.lit (.bool true)], args := [d] }
  | _ => none }
def fnPlansRow : OpenClaim := { program := "ytoelokemmfnelaa", sum := "93a947616854605f95be59cd4a74725bc6d0930139a1e0110872378044e7e6f1", func := "loop.example/g01111/laws.FnPlans", spec := "fnPlans", apart := false }
def FnPlansSaid : Prop := fnPlansRow.holds Try.pinned (OpenSpec.ofChange fnPlansSpec)

/-- ITS FALSE NEIGHBOUR: 'it returns false'. Refute it at one input. -/
def fnPlansWrong : ChangeSpec := { name := "fnPlans", fn := fun _ => fun
  | [d] => { results := [.lit (.bool false)], args := [d] }
  | _ => none }
def FnPlansWrongFalsely : Prop := fnPlansRow.holds Try.pinned (OpenSpec.ofChange fnPlansWrong)

/-- 'laws.FnNested': WHATEVER THE INPUT: true; the input reads as it did. -/
def fnNestedSpec : ChangeSpec := { name := "fnNested", fn := fun _ => fun
  | [d] => { results := [.lit (.bool true)], args := [d] }
  | _ => none }
def fnNestedRow : OpenClaim := { program := "ytoelokemmfnelaa", sum := "93a947616854605f95be59cd4a74725bc6d0930139a1e0110872378044e7e6f1", func := "loop.example/g01111/laws.FnNested", spec := "fnNested", unfollowed := true, recurses := true, apart := false }
def FnNestedSaid : Prop := fnNestedRow.holds Try.pinned (OpenSpec.ofChange fnNestedSpec)

/-- ITS FALSE NEIGHBOUR: 'it returns false'. Refute it at one input. -/
def fnNestedWrong : ChangeSpec := { name := "fnNested", fn := fun _ => fun
  | [d] => { results := [.lit (.bool false)], args := [d] }
  | _ => none }
def FnNestedWrongFalsely : Prop := fnNestedRow.holds Try.pinned (OpenSpec.ofChange fnNestedWrong)

/-- 'laws.FnExactBestChainCost': WHATEVER THE INPUT: true; the input reads as it did. -/
def fnExactBestChainCostSpec : ChangeSpec := { name := "fnExactBestChainCost", fn := fun _ => fun
  | [d] => { results := [.lit (.bool true)], args := [d] }
  | _ => none }
def fnExactBestChainCostRow : OpenClaim := { program := "ytoelokemmfnelaa", sum := "93a947616854605f95be59cd4a74725bc6d0930139a1e0110872378044e7e6f1", func := "loop.example/g01111/laws.FnExactBestChainCost", spec := "fnExactBestChainCost", unfollowed := true, recurses := true, apart := false }
def FnExactBestChainCostSaid : Prop := fnExactBestChainCostRow.holds Try.pinned (OpenSpec.ofChange fnExactBestChainCostSpec)

/-- ITS FALSE NEIGHBOUR: 'it returns false'. Refute it at one input. -/
def fnExactBestChainCostWrong : ChangeSpec := { name := "fnExactBestChainCost", fn := fun _ => fun
  | [d] => { results := [.lit (.bool false)], args := [d] }
  | _ => none }
def FnExactBestChainCostWrongFalsely : Prop := fnExactBestChainCostRow.holds Try.pinned (OpenSpec.ofChange fnExactBestChainCostWrong)

/-- 'laws.FnExactChainBound': WHATEVER THE INPUT: true; the input reads as it did. -/
def fnExactChainBoundSpec : ChangeSpec := { name := "fnExactChainBound", fn := fun _ => fun
  | [d] => { results := [.lit (.bool true)], args := [d] }
  | _ => none }
def fnExactChainBoundRow : OpenClaim := { program := "ytoelokemmfnelaa", sum := "93a947616854605f95be59cd4a74725bc6d0930139a1e0110872378044e7e6f1", func := "loop.example/g01111/laws.FnExactChainBound", spec := "fnExactChainBound", apart := false }
def FnExactChainBoundSaid : Prop := fnExactChainBoundRow.holds Try.pinned (OpenSpec.ofChange fnExactChainBoundSpec)

/-- ITS FALSE NEIGHBOUR: 'it returns false'. Refute it at one input. -/
def fnExactChainBoundWrong : ChangeSpec := { name := "fnExactChainBound", fn := fun _ => fun
  | [d] => { results := [.lit (.bool false)], args := [d] }
  | _ => none }
def FnExactChainBoundWrongFalsely : Prop := fnExactChainBoundRow.holds Try.pinned (OpenSpec.ofChange fnExactChainBoundWrong)

/-- 'laws.FnExactStagewisePlan': WHATEVER THE INPUT: true; the input reads as it did. -/
def fnExactStagewisePlanSpec : ChangeSpec := { name := "fnExactStagewisePlan", fn := fun _ => fun
  | [d] => { results := [.lit (.bool true)], args := [d] }
  | _ => none }
def fnExactStagewisePlanRow : OpenClaim := { program := "ytoelokemmfnelaa", sum := "93a947616854605f95be59cd4a74725bc6d0930139a1e0110872378044e7e6f1", func := "loop.example/g01111/laws.FnExactStagewisePlan", spec := "fnExactStagewisePlan", apart := false }
def FnExactStagewisePlanSaid : Prop := fnExactStagewisePlanRow.holds Try.pinned (OpenSpec.ofChange fnExactStagewisePlanSpec)

/-- ITS FALSE NEIGHBOUR: 'it returns false'. Refute it at one input. -/
def fnExactStagewisePlanWrong : ChangeSpec := { name := "fnExactStagewisePlan", fn := fun _ => fun
  | [d] => { results := [.lit (.bool false)], args := [d] }
  | _ => none }
def FnExactStagewisePlanWrongFalsely : Prop := fnExactStagewisePlanRow.holds Try.pinned (OpenSpec.ofChange fnExactStagewisePlanWrong)

/- THE SECOND FORM. 'bulk': how many values and letters a reading holds, each counted each time it is reached (what is shared counts as often as it is met; a slice's spare places count too). A statement '..UptoSaid' is the law's where the arguments, and the package variables that the reading takes, are together of bulk at most 1048576: NARROWER than '..Said'. Prove '..Said' where nothing that the law and all that it calls make is longer than what came in: it says more and counts as full. Else prove '..UptoSaid'. A law counts once. -/
mutual
def uptoBulk {H : Type} : DataW H → Nat
  | .lit (.string bytes) => bytes.length + 1
  | .lit _ => 1
  | .nil => 1
  | .ptr d => uptoBulk d + 1
  | .slice elems spare => uptoBulkAll elems + uptoBulkAll spare + 1
  | .agg parts => uptoBulkAll parts + 1
  | .iface _ d => uptoBulk d + 1
  | .map entries => uptoBulkEntries entries + 1
  | .held _ => 1
def uptoBulkAll {H : Type} : List (DataW H) → Nat
  | [] => 0
  | d :: r => uptoBulk d + uptoBulkAll r
def uptoBulkEntries {H : Type} : List (Lit × DataW H) → Nat
  | [] => 0
  | x :: r => uptoBulkEntry x + uptoBulkEntries r
def uptoBulkEntry {H : Type} : Lit × DataW H → Nat
  | (.string bytes, d) => bytes.length + uptoBulk d + 1
  | (_, d) => uptoBulk d + 1
 end
def uptoSmall : (H : Type) → List (DataW H) → Bool := fun _ ds => decide (uptoBulkAll ds ≤ 1048576)
def OpenSpec.upto (s : _root_.Go.ChangeSpec) : _root_.Go.OpenSpec := { _root_.Go.OpenSpec.ofChange s with cond := some uptoSmall }

/-- 'laws.FnExactBestPeriods', WHERE WHAT IT READS IS OF BULK AT MOST 1048576: true; the input reads as it did. -/
def fnExactBestPeriodsUptoRow : OpenClaim := { program := "ytoelokemmfnelaa", sum := "93a947616854605f95be59cd4a74725bc6d0930139a1e0110872378044e7e6f1", func := "loop.example/g01111/laws.FnExactBestPeriods", spec := "fnExactBestPeriods", apart := false, narrowed := true }
def FnExactBestPeriodsUptoSaid : Prop := fnExactBestPeriodsUptoRow.holds Try.pinned (OpenSpec.upto fnExactBestPeriodsSpec)

/-- 'laws.FnPlans', WHERE WHAT IT READS IS OF BULK AT MOST 1048576: true; the input reads as it did. -/
def fnPlansUptoRow : OpenClaim := { program := "ytoelokemmfnelaa", sum := "93a947616854605f95be59cd4a74725bc6d0930139a1e0110872378044e7e6f1", func := "loop.example/g01111/laws.FnPlans", spec := "fnPlans", apart := false, narrowed := true }
def FnPlansUptoSaid : Prop := fnPlansUptoRow.holds Try.pinned (OpenSpec.upto fnPlansSpec)

/-- 'laws.FnNested', WHERE WHAT IT READS IS OF BULK AT MOST 1048576: true; the input reads as it did. -/
def fnNestedUptoRow : OpenClaim := { program := "ytoelokemmfnelaa", sum := "93a947616854605f95be59cd4a74725bc6d0930139a1e0110872378044e7e6f1", func := "loop.example/g01111/laws.FnNested", spec := "fnNested", unfollowed := true, recurses := true, apart := false, narrowed := true }
def FnNestedUptoSaid : Prop := fnNestedUptoRow.holds Try.pinned (OpenSpec.upto fnNestedSpec)

/-- 'laws.FnExactBestChainCost', WHERE WHAT IT READS IS OF BULK AT MOST 1048576: true; the input reads as it did. -/
def fnExactBestChainCostUptoRow : OpenClaim := { program := "ytoelokemmfnelaa", sum := "93a947616854605f95be59cd4a74725bc6d0930139a1e0110872378044e7e6f1", func := "loop.example/g01111/laws.FnExactBestChainCost", spec := "fnExactBestChainCost", unfollowed := true, recurses := true, apart := false, narrowed := true }
def FnExactBestChainCostUptoSaid : Prop := fnExactBestChainCostUptoRow.holds Try.pinned (OpenSpec.upto fnExactBestChainCostSpec)

/-- 'laws.FnExactChainBound', WHERE WHAT IT READS IS OF BULK AT MOST 1048576: true; the input reads as it did. -/
def fnExactChainBoundUptoRow : OpenClaim := { program := "ytoelokemmfnelaa", sum := "93a947616854605f95be59cd4a74725bc6d0930139a1e0110872378044e7e6f1", func := "loop.example/g01111/laws.FnExactChainBound", spec := "fnExactChainBound", apart := false, narrowed := true }
def FnExactChainBoundUptoSaid : Prop := fnExactChainBoundUptoRow.holds Try.pinned (OpenSpec.upto fnExactChainBoundSpec)

/-- 'laws.FnExactStagewisePlan', WHERE WHAT IT READS IS OF BULK AT MOST 1048576: true; the input reads as it did. -/
def fnExactStagewisePlanUptoRow : OpenClaim := { program := "ytoelokemmfnelaa", sum := "93a947616854605f95be59cd4a74725bc6d0930139a1e0110872378044e7e6f1", func := "loop.example/g01111/laws.FnExactStagewisePlan", spec := "fnExactStagewisePlan", apart := false, narrowed := true }
def FnExactStagewisePlanUptoSaid : Prop := fnExactStagewisePlanUptoRow.holds Try.pinned (OpenSpec.upto fnExactStagewisePlanSpec)

end Rows
end Go.Proofs.Ytoelokemmfnelaa
