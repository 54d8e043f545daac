/-
  DERIVED. GIVEN WITH THE SEED: THE CARDS: each row of YtookfoiicbkfjaaDoorRows.lean that lists a variable, with what it lists TIED to the program's text (the seventh form; the later family's looks); each row that meets fmt, with fmt's text TOLD by the authors' own Lean function (tested against real Go, not proved from fmt's source: count such statements apart). THE CARD IS WHAT COUNTS. Prove the row's statement (the work); the ties are given (YtookfoiicbkfjaaDoorTie.lean); close each card by the builder's one call (the guide's Derived/Test/ToyasCard.lean, 'card_holds'). Laid BY PROGRAM, IN A SANDBOX (cutbox-door.mjs). By AI agents, Wed Nov 11 2026. No macro, syntax, notation, axiom, sorry.
-/
import Derived.Test.YtookfoiicbkfjaaDoorRows
import GoSem.ClaimSeven
namespace Go.Proofs.YtookfoiicbkfjaaDoor
namespace Rows

/-- THE TIED CARD OF 'laws.FnExactRecoverLog'. -/
def fnExactRecoverLogCard : Claim7 := { stood := { row := fnExactRecoverLogRow, standIns := [], harness := (true, "33eb27f1fa736902edd7a74504f640ee4f80cba1716fe86a10ec06ea5240d946"), looks := false }, kinds := [], alts := [], laidByText := true, laidKinds := [.data, .data, .data], laidTests := true, laidLooks := .later }
def FnExactRecoverLogCardSaid : Prop := Claim7.holds Tryd.pinned (.plain (OpenSpec.ofChange fnExactRecoverLogSpec)) fnExactRecoverLogCard

/-- THE TIED CARD OF 'laws.FnExactIsValidLog'. -/
def fnExactIsValidLogCard : Claim7 := { stood := { row := fnExactIsValidLogRow, standIns := [], harness := (true, "33eb27f1fa736902edd7a74504f640ee4f80cba1716fe86a10ec06ea5240d946"), looks := false }, kinds := [], alts := [], laidByText := true, laidKinds := [.data, .data, .data], laidTests := true, laidLooks := .later }
def FnExactIsValidLogCardSaid : Prop := Claim7.holds Tryd.pinned (.plain (OpenSpec.ofChange fnExactIsValidLogSpec)) fnExactIsValidLogCard

/-- THE TIED CARD OF 'laws.FnTraces'. -/
def fnTracesCard : Claim7 := { stood := { row := fnTracesRow, standIns := [], harness := (true, "33eb27f1fa736902edd7a74504f640ee4f80cba1716fe86a10ec06ea5240d946"), looks := false }, kinds := [], alts := [], laidByText := true, laidKinds := [.data, .data, .data], laidTests := true, laidLooks := .later }
def FnTracesCardSaid : Prop := Claim7.holds Tryd.pinned (.plain (OpenSpec.ofChange fnTracesSpec)) fnTracesCard

/-- THE SECOND FORM's CARD OF 'laws.FnExactRecoverLog'. -/
def fnExactRecoverLogUptoCard : Claim7 := { stood := { row := fnExactRecoverLogUptoRow, standIns := [], harness := (true, "33eb27f1fa736902edd7a74504f640ee4f80cba1716fe86a10ec06ea5240d946"), looks := false }, kinds := [], alts := [], laidByText := true, laidKinds := [.data, .data, .data], laidTests := true, laidLooks := .later }
def FnExactRecoverLogUptoCardSaid : Prop := Claim7.holds Tryd.pinned (.plain (OpenSpec.upto fnExactRecoverLogSpec)) fnExactRecoverLogUptoCard

/-- THE SECOND FORM's CARD OF 'laws.FnExactIsValidLog'. -/
def fnExactIsValidLogUptoCard : Claim7 := { stood := { row := fnExactIsValidLogUptoRow, standIns := [], harness := (true, "33eb27f1fa736902edd7a74504f640ee4f80cba1716fe86a10ec06ea5240d946"), looks := false }, kinds := [], alts := [], laidByText := true, laidKinds := [.data, .data, .data], laidTests := true, laidLooks := .later }
def FnExactIsValidLogUptoCardSaid : Prop := Claim7.holds Tryd.pinned (.plain (OpenSpec.upto fnExactIsValidLogSpec)) fnExactIsValidLogUptoCard

/-- THE SECOND FORM's CARD OF 'laws.FnTraces'. -/
def fnTracesUptoCard : Claim7 := { stood := { row := fnTracesUptoRow, standIns := [], harness := (true, "33eb27f1fa736902edd7a74504f640ee4f80cba1716fe86a10ec06ea5240d946"), looks := false }, kinds := [], alts := [], laidByText := true, laidKinds := [.data, .data, .data], laidTests := true, laidLooks := .later }
def FnTracesUptoCardSaid : Prop := Claim7.holds Tryd.pinned (.plain (OpenSpec.upto fnTracesSpec)) fnTracesUptoCard
end Rows
end Go.Proofs.YtookfoiicbkfjaaDoor
