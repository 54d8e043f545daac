/-
  No cell of these rows narrows 'for every input' (looked for: loops, veiled, ifaces, maps, wideKeys, modest, calm, conditions, laid).
  DERIVED. THE GIVEN ROWS OF THIS SEAT. 6 by the template 'for every input the law returns true; each argument reads behind the call as it read before'; 0 by the template 'total and deterministic' (their statements: YtbjhilklcojdfaaTotals.lean).
  GIVEN WITH THE SEED: the statements are not yours to turn. If you find one false, say at which input.
  Laid BY PROGRAM, IN A SANDBOX (cutbox-rows.mjs): the forced cells as the released guide's own fill.sh prints them over the translation 6228b8cbaa2a1038… (all of the seat's roots in one cut). By AI agents, Wed Nov 11 2026. No macro, syntax, notation, axiom, sorry.
-/
import Derived.Test.YtbjhilklcojdfaaChecked
import GoSem.Claim
import GoSem.ClaimJoined
import GoSem.ClaimMapViews
import Derived.JoinedTies
import Derived.KernelRfl
namespace Go.Proofs.Ytbjhilklcojdfaa
/- THE CELL 'sum', in the pinned program and in every row, IS THE sha256 OF THE DUMP (.gsa) THAT YtbjhilklcojdfaaProg.lean LOADS. Nothing in Lean hashes anything: it is a label: what it is worth is what the hold of that sum in a sandbox is worth. -/
noncomputable def Try.pinned : Pinned := { name := "ytbjhilklcojdfaa", sum := "6228b8cbaa2a103825853f652b1318627e92b3ad335465cf38195e9c7b70d602", checked := Try.checked }
namespace Rows
def none {H : Type} : Left H := { results := [], args := [] }

/-- 'laws.FnExactIsLedger': WHATEVER THE INPUT: true; the input reads as it did. -/
def fnExactIsLedgerSpec : ChangeSpec := { name := "fnExactIsLedger", fn := fun _ => fun
  | [d] => { results := [.lit (.bool true)], args := [d] }
  | _ => none }
def fnExactIsLedgerRow : OpenClaim := { program := "ytbjhilklcojdfaa", sum := "6228b8cbaa2a103825853f652b1318627e92b3ad335465cf38195e9c7b70d602", func := "loop.example/g01111/laws.FnExactIsLedger", spec := "fnExactIsLedger", apart := false }
def FnExactIsLedgerSaid : Prop := fnExactIsLedgerRow.holds Try.pinned (OpenSpec.ofChange fnExactIsLedgerSpec)

/-- ITS FALSE NEIGHBOUR: 'it returns false'. Refute it at one input. -/
def fnExactIsLedgerWrong : ChangeSpec := { name := "fnExactIsLedger", fn := fun _ => fun
  | [d] => { results := [.lit (.bool false)], args := [d] }
  | _ => none }
def FnExactIsLedgerWrongFalsely : Prop := fnExactIsLedgerRow.holds Try.pinned (OpenSpec.ofChange fnExactIsLedgerWrong)

/-- 'laws.FnExactStockNow': WHATEVER THE INPUT: true; the input reads as it did. -/
def fnExactStockNowSpec : ChangeSpec := { name := "fnExactStockNow", fn := fun _ => fun
  | [d] => { results := [.lit (.bool true)], args := [d] }
  | _ => none }
def fnExactStockNowRow : OpenClaim := { program := "ytbjhilklcojdfaa", sum := "6228b8cbaa2a103825853f652b1318627e92b3ad335465cf38195e9c7b70d602", func := "loop.example/g01111/laws.FnExactStockNow", spec := "fnExactStockNow", apart := false }
def FnExactStockNowSaid : Prop := fnExactStockNowRow.holds Try.pinned (OpenSpec.ofChange fnExactStockNowSpec)

/-- ITS FALSE NEIGHBOUR: 'it returns false'. Refute it at one input. -/
def fnExactStockNowWrong : ChangeSpec := { name := "fnExactStockNow", fn := fun _ => fun
  | [d] => { results := [.lit (.bool false)], args := [d] }
  | _ => none }
def FnExactStockNowWrongFalsely : Prop := fnExactStockNowRow.holds Try.pinned (OpenSpec.ofChange fnExactStockNowWrong)

/-- 'laws.FnExactPlanCost': WHATEVER THE INPUT: true; the input reads as it did. -/
def fnExactPlanCostSpec : ChangeSpec := { name := "fnExactPlanCost", fn := fun _ => fun
  | [d1, d2] => { results := [.lit (.bool true)], args := [d1, d2] }
  | _ => none }
def fnExactPlanCostRow : OpenClaim := { program := "ytbjhilklcojdfaa", sum := "6228b8cbaa2a103825853f652b1318627e92b3ad335465cf38195e9c7b70d602", func := "loop.example/g01111/laws.FnExactPlanCost", spec := "fnExactPlanCost", apart := false }
def FnExactPlanCostSaid : Prop := fnExactPlanCostRow.holds Try.pinned (OpenSpec.ofChange fnExactPlanCostSpec)

/-- ITS FALSE NEIGHBOUR: 'it returns false'. Refute it at one input. -/
def fnExactPlanCostWrong : ChangeSpec := { name := "fnExactPlanCost", fn := fun _ => fun
  | [d1, d2] => { results := [.lit (.bool false)], args := [d1, d2] }
  | _ => none }
def FnExactPlanCostWrongFalsely : Prop := fnExactPlanCostRow.holds Try.pinned (OpenSpec.ofChange fnExactPlanCostWrong)

/-- 'laws.FnExactIsValidRecord': WHATEVER THE INPUT: true; the input reads as it did. -/
def fnExactIsValidRecordSpec : ChangeSpec := { name := "fnExactIsValidRecord", fn := fun _ => fun
  | [d] => { results := [.lit (.bool true)], args := [d] }
  | _ => none }
def fnExactIsValidRecordRow : OpenClaim := { program := "ytbjhilklcojdfaa", sum := "6228b8cbaa2a103825853f652b1318627e92b3ad335465cf38195e9c7b70d602", func := "loop.example/g01111/laws.FnExactIsValidRecord", spec := "fnExactIsValidRecord", inPlace := ["internal/bytealg.IndexByteString", "internal/bytealg.IndexString"], named := ["internal/bytealg.MaxLen"], apart := false }
def FnExactIsValidRecordSaid : Prop := fnExactIsValidRecordRow.holds Try.pinned (OpenSpec.ofChange fnExactIsValidRecordSpec)

/-- ITS FALSE NEIGHBOUR: 'it returns false'. Refute it at one input. -/
def fnExactIsValidRecordWrong : ChangeSpec := { name := "fnExactIsValidRecord", fn := fun _ => fun
  | [d] => { results := [.lit (.bool false)], args := [d] }
  | _ => none }
def FnExactIsValidRecordWrongFalsely : Prop := fnExactIsValidRecordRow.holds Try.pinned (OpenSpec.ofChange fnExactIsValidRecordWrong)

/-- 'laws.FnExactNewLedger': WHATEVER THE INPUT: true; the input reads as it did. -/
def fnExactNewLedgerSpec : ChangeSpec := { name := "fnExactNewLedger", fn := fun _ => fun
  | [d] => { results := [.lit (.bool true)], args := [d] }
  | _ => none }
def fnExactNewLedgerRow : OpenClaim := { program := "ytbjhilklcojdfaa", sum := "6228b8cbaa2a103825853f652b1318627e92b3ad335465cf38195e9c7b70d602", func := "loop.example/g01111/laws.FnExactNewLedger", spec := "fnExactNewLedger", apart := false }
def FnExactNewLedgerSaid : Prop := fnExactNewLedgerRow.holds Try.pinned (OpenSpec.ofChange fnExactNewLedgerSpec)

/-- ITS FALSE NEIGHBOUR: 'it returns false'. Refute it at one input. -/
def fnExactNewLedgerWrong : ChangeSpec := { name := "fnExactNewLedger", fn := fun _ => fun
  | [d] => { results := [.lit (.bool false)], args := [d] }
  | _ => none }
def FnExactNewLedgerWrongFalsely : Prop := fnExactNewLedgerRow.holds Try.pinned (OpenSpec.ofChange fnExactNewLedgerWrong)

/-- 'laws.FnExactCostNow': WHATEVER THE INPUT: true; the input reads as it did. -/
def fnExactCostNowSpec : ChangeSpec := { name := "fnExactCostNow", fn := fun _ => fun
  | [d] => { results := [.lit (.bool true)], args := [d] }
  | _ => none }
def fnExactCostNowRow : OpenClaim := { program := "ytbjhilklcojdfaa", sum := "6228b8cbaa2a103825853f652b1318627e92b3ad335465cf38195e9c7b70d602", func := "loop.example/g01111/laws.FnExactCostNow", spec := "fnExactCostNow", apart := false }
def FnExactCostNowSaid : Prop := fnExactCostNowRow.holds Try.pinned (OpenSpec.ofChange fnExactCostNowSpec)

/-- ITS FALSE NEIGHBOUR: 'it returns false'. Refute it at one input. -/
def fnExactCostNowWrong : ChangeSpec := { name := "fnExactCostNow", fn := fun _ => fun
  | [d] => { results := [.lit (.bool false)], args := [d] }
  | _ => none }
def FnExactCostNowWrongFalsely : Prop := fnExactCostNowRow.holds Try.pinned (OpenSpec.ofChange fnExactCostNowWrong)

/- THE SECOND FORM. 'bulk': how many values and letters a reading holds, each counted each time it is reached (what is shared counts as often as it is met; a slice's spare places count too). A statement '..UptoSaid' is the law's where the arguments, and the package variables that the reading takes, are together of bulk at most 1048576: NARROWER than '..Said'. Prove '..Said' where nothing that the law and all that it calls make is longer than what came in: it says more and counts as full. Else prove '..UptoSaid'. A law counts once. -/
mutual
def uptoBulk {H : Type} : DataW H → Nat
  | .lit (.string bytes) => bytes.length + 1
  | .lit _ => 1
  | .nil => 1
  | .ptr d => uptoBulk d + 1
  | .slice elems spare => uptoBulkAll elems + uptoBulkAll spare + 1
  | .agg parts => uptoBulkAll parts + 1
  | .iface _ d => uptoBulk d + 1
  | .map entries => uptoBulkEntries entries + 1
  | .held _ => 1
def uptoBulkAll {H : Type} : List (DataW H) → Nat
  | [] => 0
  | d :: r => uptoBulk d + uptoBulkAll r
def uptoBulkEntries {H : Type} : List (Lit × DataW H) → Nat
  | [] => 0
  | x :: r => uptoBulkEntry x + uptoBulkEntries r
def uptoBulkEntry {H : Type} : Lit × DataW H → Nat
  | (.string bytes, d) => bytes.length + uptoBulk d + 1
  | (_, d) => uptoBulk d + 1
 end
def uptoSmall : (H : Type) → List (DataW H) → Bool := fun _ ds => decide (uptoBulkAll ds ≤ 1048576)
def OpenSpec.upto (s : _root_.Go.ChangeSpec) : _root_.Go.OpenSpec := { _root_.Go.OpenSpec.ofChange s with cond := some uptoSmall }

/-- 'laws.FnExactIsLedger', WHERE WHAT IT READS IS OF BULK AT MOST 1048576: true; the input reads as it did. -/
def fnExactIsLedgerUptoRow : OpenClaim := { program := "ytbjhilklcojdfaa", sum := "6228b8cbaa2a103825853f652b1318627e92b3ad335465cf38195e9c7b70d602", func := "loop.example/g01111/laws.FnExactIsLedger", spec := "fnExactIsLedger", apart := false, narrowed := true }
def FnExactIsLedgerUptoSaid : Prop := fnExactIsLedgerUptoRow.holds Try.pinned (OpenSpec.upto fnExactIsLedgerSpec)

/-- 'laws.FnExactStockNow', WHERE WHAT IT READS IS OF BULK AT MOST 1048576: true; the input reads as it did. -/
def fnExactStockNowUptoRow : OpenClaim := { program := "ytbjhilklcojdfaa", sum := "6228b8cbaa2a103825853f652b1318627e92b3ad335465cf38195e9c7b70d602", func := "loop.example/g01111/laws.FnExactStockNow", spec := "fnExactStockNow", apart := false, narrowed := true }
def FnExactStockNowUptoSaid : Prop := fnExactStockNowUptoRow.holds Try.pinned (OpenSpec.upto fnExactStockNowSpec)

/-- 'laws.FnExactPlanCost', WHERE WHAT IT READS IS OF BULK AT MOST 1048576: true; the input reads as it did. -/
def fnExactPlanCostUptoRow : OpenClaim := { program := "ytbjhilklcojdfaa", sum := "6228b8cbaa2a103825853f652b1318627e92b3ad335465cf38195e9c7b70d602", func := "loop.example/g01111/laws.FnExactPlanCost", spec := "fnExactPlanCost", apart := false, narrowed := true }
def FnExactPlanCostUptoSaid : Prop := fnExactPlanCostUptoRow.holds Try.pinned (OpenSpec.upto fnExactPlanCostSpec)

/-- 'laws.FnExactIsValidRecord', WHERE WHAT IT READS IS OF BULK AT MOST 1048576: true; the input reads as it did. -/
def fnExactIsValidRecordUptoRow : OpenClaim := { program := "ytbjhilklcojdfaa", sum := "6228b8cbaa2a103825853f652b1318627e92b3ad335465cf38195e9c7b70d602", func := "loop.example/g01111/laws.FnExactIsValidRecord", spec := "fnExactIsValidRecord", inPlace := ["internal/bytealg.IndexByteString", "internal/bytealg.IndexString"], named := ["internal/bytealg.MaxLen"], apart := false, narrowed := true }
def FnExactIsValidRecordUptoSaid : Prop := fnExactIsValidRecordUptoRow.holds Try.pinned (OpenSpec.upto fnExactIsValidRecordSpec)

/-- 'laws.FnExactNewLedger', WHERE WHAT IT READS IS OF BULK AT MOST 1048576: true; the input reads as it did. -/
def fnExactNewLedgerUptoRow : OpenClaim := { program := "ytbjhilklcojdfaa", sum := "6228b8cbaa2a103825853f652b1318627e92b3ad335465cf38195e9c7b70d602", func := "loop.example/g01111/laws.FnExactNewLedger", spec := "fnExactNewLedger", apart := false, narrowed := true }
def FnExactNewLedgerUptoSaid : Prop := fnExactNewLedgerUptoRow.holds Try.pinned (OpenSpec.upto fnExactNewLedgerSpec)

/-- 'laws.FnExactCostNow', WHERE WHAT IT READS IS OF BULK AT MOST 1048576: true; the input reads as it did. -/
def fnExactCostNowUptoRow : OpenClaim := { program := "ytbjhilklcojdfaa", sum := "6228b8cbaa2a103825853f652b1318627e92b3ad335465cf38195e9c7b70d602", func := "loop.example/g01111/laws.FnExactCostNow", spec := "fnExactCostNow", apart := false, narrowed := true }
def FnExactCostNowUptoSaid : Prop := fnExactCostNowUptoRow.holds Try.pinned (OpenSpec.upto fnExactCostNowSpec)

end Rows
end Go.Proofs.Ytbjhilklcojdfaa
