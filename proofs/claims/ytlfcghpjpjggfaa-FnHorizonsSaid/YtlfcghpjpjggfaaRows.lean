/-
  No cell of these rows narrows 'for every input' (looked for: loops, veiled, ifaces, maps, wideKeys, modest, calm, conditions, laid).
  DERIVED. THE GIVEN ROWS OF THIS SEAT. 6 by the template 'for every input the law returns true; each argument reads behind the call as it read before'; 0 by the template 'total and deterministic' (their statements: YtlfcghpjpjggfaaTotals.lean).
  GIVEN WITH THE SEED: the statements are not yours to turn. If you find one false, say at which input.
  Laid BY PROGRAM, IN A SANDBOX (cutbox-rows.mjs): the forced cells as the released guide's own fill.sh prints them over the translation 40d04f864ace0a4d… (all of the seat's roots in one cut). By AI agents, Wed Nov 11 2026. No macro, syntax, notation, axiom, sorry.
-/
import Derived.Test.YtlfcghpjpjggfaaChecked
import GoSem.Claim
import GoSem.ClaimJoined
import GoSem.ClaimMapViews
import Derived.JoinedTies
import Derived.KernelRfl
namespace Go.Proofs.Ytlfcghpjpjggfaa
/- THE CELL 'sum', in the pinned program and in every row, IS THE sha256 OF THE DUMP (.gsa) THAT YtlfcghpjpjggfaaProg.lean LOADS. Nothing in Lean hashes anything: it is a label: what it is worth is what the hold of that sum in a sandbox is worth. -/
noncomputable def Try.pinned : Pinned := { name := "ytlfcghpjpjggfaa", sum := "40d04f864ace0a4ddbe273e6b3c49802a173c05bb26defde5d1a577b2c911d60", checked := Try.checked }
namespace Rows
def none {H : Type} : Left H := { results := [], args := [] }

/-- 'laws.FnHorizons': WHATEVER THE INPUT: true; the input reads as it did. -/
def fnHorizonsSpec : ChangeSpec := { name := "fnHorizons", fn := fun _ => fun
  | [d] => { results := [.lit (.bool true)], args := [d] }
  | _ => none }
def fnHorizonsRow : OpenClaim := { program := "ytlfcghpjpjggfaa", sum := "40d04f864ace0a4ddbe273e6b3c49802a173c05bb26defde5d1a577b2c911d60", func := "loop.example/g01111/laws.FnHorizons", spec := "fnHorizons", apart := false }
def FnHorizonsSaid : Prop := fnHorizonsRow.holds Try.pinned (OpenSpec.ofChange fnHorizonsSpec)

/-- ITS FALSE NEIGHBOUR: 'it returns false'. Refute it at one input. -/
def fnHorizonsWrong : ChangeSpec := { name := "fnHorizons", fn := fun _ => fun
  | [d] => { results := [.lit (.bool false)], args := [d] }
  | _ => none }
def FnHorizonsWrongFalsely : Prop := fnHorizonsRow.holds Try.pinned (OpenSpec.ofChange fnHorizonsWrong)

/-- 'laws.FnExactBestAssembly': WHATEVER THE INPUT: true; the input reads as it did. -/
def fnExactBestAssemblySpec : ChangeSpec := { name := "fnExactBestAssembly", fn := fun _ => fun
  | [d1, d2, d3] => { results := [.lit (.bool true)], args := [d1, d2, d3] }
  | _ => none }
def fnExactBestAssemblyRow : OpenClaim := { program := "ytlfcghpjpjggfaa", sum := "40d04f864ace0a4ddbe273e6b3c49802a173c05bb26defde5d1a577b2c911d60", func := "loop.example/g01111/laws.FnExactBestAssembly", spec := "fnExactBestAssembly", apart := false }
def FnExactBestAssemblySaid : Prop := fnExactBestAssemblyRow.holds Try.pinned (OpenSpec.ofChange fnExactBestAssemblySpec)

/-- ITS FALSE NEIGHBOUR: 'it returns false'. Refute it at one input. -/
def fnExactBestAssemblyWrong : ChangeSpec := { name := "fnExactBestAssembly", fn := fun _ => fun
  | [d1, d2, d3] => { results := [.lit (.bool false)], args := [d1, d2, d3] }
  | _ => none }
def FnExactBestAssemblyWrongFalsely : Prop := fnExactBestAssemblyRow.holds Try.pinned (OpenSpec.ofChange fnExactBestAssemblyWrong)

/-- 'laws.FnExactCostAhead': WHATEVER THE INPUT: true; the input reads as it did. -/
def fnExactCostAheadSpec : ChangeSpec := { name := "fnExactCostAhead", fn := fun _ => fun
  | [d] => { results := [.lit (.bool true)], args := [d] }
  | _ => none }
def fnExactCostAheadRow : OpenClaim := { program := "ytlfcghpjpjggfaa", sum := "40d04f864ace0a4ddbe273e6b3c49802a173c05bb26defde5d1a577b2c911d60", func := "loop.example/g01111/laws.FnExactCostAhead", spec := "fnExactCostAhead", apart := false }
def FnExactCostAheadSaid : Prop := fnExactCostAheadRow.holds Try.pinned (OpenSpec.ofChange fnExactCostAheadSpec)

/-- ITS FALSE NEIGHBOUR: 'it returns false'. Refute it at one input. -/
def fnExactCostAheadWrong : ChangeSpec := { name := "fnExactCostAhead", fn := fun _ => fun
  | [d] => { results := [.lit (.bool false)], args := [d] }
  | _ => none }
def FnExactCostAheadWrongFalsely : Prop := fnExactCostAheadRow.holds Try.pinned (OpenSpec.ofChange fnExactCostAheadWrong)

/-- 'laws.FnExactShortPeriods': WHATEVER THE INPUT: true; the input reads as it did. -/
def fnExactShortPeriodsSpec : ChangeSpec := { name := "fnExactShortPeriods", fn := fun _ => fun
  | [d] => { results := [.lit (.bool true)], args := [d] }
  | _ => none }
def fnExactShortPeriodsRow : OpenClaim := { program := "ytlfcghpjpjggfaa", sum := "40d04f864ace0a4ddbe273e6b3c49802a173c05bb26defde5d1a577b2c911d60", func := "loop.example/g01111/laws.FnExactShortPeriods", spec := "fnExactShortPeriods", apart := false }
def FnExactShortPeriodsSaid : Prop := fnExactShortPeriodsRow.holds Try.pinned (OpenSpec.ofChange fnExactShortPeriodsSpec)

/-- ITS FALSE NEIGHBOUR: 'it returns false'. Refute it at one input. -/
def fnExactShortPeriodsWrong : ChangeSpec := { name := "fnExactShortPeriods", fn := fun _ => fun
  | [d] => { results := [.lit (.bool false)], args := [d] }
  | _ => none }
def FnExactShortPeriodsWrongFalsely : Prop := fnExactShortPeriodsRow.holds Try.pinned (OpenSpec.ofChange fnExactShortPeriodsWrong)

/-- 'laws.FnExactNeedsLeft': WHATEVER THE INPUT: true; the input reads as it did. -/
def fnExactNeedsLeftSpec : ChangeSpec := { name := "fnExactNeedsLeft", fn := fun _ => fun
  | [d] => { results := [.lit (.bool true)], args := [d] }
  | _ => none }
def fnExactNeedsLeftRow : OpenClaim := { program := "ytlfcghpjpjggfaa", sum := "40d04f864ace0a4ddbe273e6b3c49802a173c05bb26defde5d1a577b2c911d60", func := "loop.example/g01111/laws.FnExactNeedsLeft", spec := "fnExactNeedsLeft", apart := false }
def FnExactNeedsLeftSaid : Prop := fnExactNeedsLeftRow.holds Try.pinned (OpenSpec.ofChange fnExactNeedsLeftSpec)

/-- ITS FALSE NEIGHBOUR: 'it returns false'. Refute it at one input. -/
def fnExactNeedsLeftWrong : ChangeSpec := { name := "fnExactNeedsLeft", fn := fun _ => fun
  | [d] => { results := [.lit (.bool false)], args := [d] }
  | _ => none }
def FnExactNeedsLeftWrongFalsely : Prop := fnExactNeedsLeftRow.holds Try.pinned (OpenSpec.ofChange fnExactNeedsLeftWrong)

/-- 'laws.FnExactIsPriceProof': WHATEVER THE INPUT: true; the input reads as it did. -/
def fnExactIsPriceProofSpec : ChangeSpec := { name := "fnExactIsPriceProof", fn := fun _ => fun
  | [d1, d2, d3] => { results := [.lit (.bool true)], args := [d1, d2, d3] }
  | _ => none }
def fnExactIsPriceProofRow : OpenClaim := { program := "ytlfcghpjpjggfaa", sum := "40d04f864ace0a4ddbe273e6b3c49802a173c05bb26defde5d1a577b2c911d60", func := "loop.example/g01111/laws.FnExactIsPriceProof", spec := "fnExactIsPriceProof", apart := false }
def FnExactIsPriceProofSaid : Prop := fnExactIsPriceProofRow.holds Try.pinned (OpenSpec.ofChange fnExactIsPriceProofSpec)

/-- ITS FALSE NEIGHBOUR: 'it returns false'. Refute it at one input. -/
def fnExactIsPriceProofWrong : ChangeSpec := { name := "fnExactIsPriceProof", fn := fun _ => fun
  | [d1, d2, d3] => { results := [.lit (.bool false)], args := [d1, d2, d3] }
  | _ => none }
def FnExactIsPriceProofWrongFalsely : Prop := fnExactIsPriceProofRow.holds Try.pinned (OpenSpec.ofChange fnExactIsPriceProofWrong)

/- THE SECOND FORM. 'bulk': how many values and letters a reading holds, each counted each time it is reached (what is shared counts as often as it is met; a slice's spare places count too). A statement '..UptoSaid' is the law's where the arguments, and the package variables that the reading takes, are together of bulk at most 1048576: NARROWER than '..Said'. Prove '..Said' where nothing that the law and all that it calls make is longer than what came in: it says more and counts as full. Else prove '..UptoSaid'. A law counts once. -/
mutual
def uptoBulk {H : Type} : DataW H → Nat
  | .lit (.string bytes) => bytes.length + 1
  | .lit _ => 1
  | .nil => 1
  | .ptr d => uptoBulk d + 1
  | .slice elems spare => uptoBulkAll elems + uptoBulkAll spare + 1
  | .agg parts => uptoBulkAll parts + 1
  | .iface _ d => uptoBulk d + 1
  | .map entries => uptoBulkEntries entries + 1
  | .held _ => 1
def uptoBulkAll {H : Type} : List (DataW H) → Nat
  | [] => 0
  | d :: r => uptoBulk d + uptoBulkAll r
def uptoBulkEntries {H : Type} : List (Lit × DataW H) → Nat
  | [] => 0
  | x :: r => uptoBulkEntry x + uptoBulkEntries r
def uptoBulkEntry {H : Type} : Lit × DataW H → Nat
  | (.string bytes, d) => bytes.length + uptoBulk d + 1
  | (_, d) => uptoBulk d + 1
 end
def uptoSmall : (H : Type) → List (DataW H) → Bool := fun _ ds => decide (uptoBulkAll ds ≤ 1048576)
def OpenSpec.upto (s : _root_.Go.ChangeSpec) : _root_.Go.OpenSpec := { _root_.Go.OpenSpec.ofChange s with cond := some uptoSmall }

/-- 'laws.FnHorizons', WHERE WHAT IT READS IS OF BULK AT MOST 1048576: true; the input reads as it did. -/
def fnHorizonsUptoRow : OpenClaim := { program := "ytlfcghpjpjggfaa", sum := "40d04f864ace0a4ddbe273e6b3c49802a173c05bb26defde5d1a577b2c911d60", func := "loop.example/g01111/laws.FnHorizons", spec := "fnHorizons", apart := false, narrowed := true }
def FnHorizonsUptoSaid : Prop := fnHorizonsUptoRow.holds Try.pinned (OpenSpec.upto fnHorizonsSpec)

/-- 'laws.FnExactBestAssembly', WHERE WHAT IT READS IS OF BULK AT MOST 1048576: true; the input reads as it did. -/
def fnExactBestAssemblyUptoRow : OpenClaim := { program := "ytlfcghpjpjggfaa", sum := "40d04f864ace0a4ddbe273e6b3c49802a173c05bb26defde5d1a577b2c911d60", func := "loop.example/g01111/laws.FnExactBestAssembly", spec := "fnExactBestAssembly", apart := false, narrowed := true }
def FnExactBestAssemblyUptoSaid : Prop := fnExactBestAssemblyUptoRow.holds Try.pinned (OpenSpec.upto fnExactBestAssemblySpec)

/-- 'laws.FnExactCostAhead', WHERE WHAT IT READS IS OF BULK AT MOST 1048576: true; the input reads as it did. -/
def fnExactCostAheadUptoRow : OpenClaim := { program := "ytlfcghpjpjggfaa", sum := "40d04f864ace0a4ddbe273e6b3c49802a173c05bb26defde5d1a577b2c911d60", func := "loop.example/g01111/laws.FnExactCostAhead", spec := "fnExactCostAhead", apart := false, narrowed := true }
def FnExactCostAheadUptoSaid : Prop := fnExactCostAheadUptoRow.holds Try.pinned (OpenSpec.upto fnExactCostAheadSpec)

/-- 'laws.FnExactShortPeriods', WHERE WHAT IT READS IS OF BULK AT MOST 1048576: true; the input reads as it did. -/
def fnExactShortPeriodsUptoRow : OpenClaim := { program := "ytlfcghpjpjggfaa", sum := "40d04f864ace0a4ddbe273e6b3c49802a173c05bb26defde5d1a577b2c911d60", func := "loop.example/g01111/laws.FnExactShortPeriods", spec := "fnExactShortPeriods", apart := false, narrowed := true }
def FnExactShortPeriodsUptoSaid : Prop := fnExactShortPeriodsUptoRow.holds Try.pinned (OpenSpec.upto fnExactShortPeriodsSpec)

/-- 'laws.FnExactNeedsLeft', WHERE WHAT IT READS IS OF BULK AT MOST 1048576: true; the input reads as it did. -/
def fnExactNeedsLeftUptoRow : OpenClaim := { program := "ytlfcghpjpjggfaa", sum := "40d04f864ace0a4ddbe273e6b3c49802a173c05bb26defde5d1a577b2c911d60", func := "loop.example/g01111/laws.FnExactNeedsLeft", spec := "fnExactNeedsLeft", apart := false, narrowed := true }
def FnExactNeedsLeftUptoSaid : Prop := fnExactNeedsLeftUptoRow.holds Try.pinned (OpenSpec.upto fnExactNeedsLeftSpec)

/-- 'laws.FnExactIsPriceProof', WHERE WHAT IT READS IS OF BULK AT MOST 1048576: true; the input reads as it did. -/
def fnExactIsPriceProofUptoRow : OpenClaim := { program := "ytlfcghpjpjggfaa", sum := "40d04f864ace0a4ddbe273e6b3c49802a173c05bb26defde5d1a577b2c911d60", func := "loop.example/g01111/laws.FnExactIsPriceProof", spec := "fnExactIsPriceProof", apart := false, narrowed := true }
def FnExactIsPriceProofUptoSaid : Prop := fnExactIsPriceProofUptoRow.holds Try.pinned (OpenSpec.upto fnExactIsPriceProofSpec)

end Rows
end Go.Proofs.Ytlfcghpjpjggfaa
