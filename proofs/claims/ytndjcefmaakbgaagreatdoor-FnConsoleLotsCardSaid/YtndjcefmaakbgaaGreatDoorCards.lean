/-
  DERIVED. GIVEN WITH THE SEED: THE CARDS: each row of YtndjcefmaakbgaaGreatDoorRows.lean that lists a variable, with what it lists TIED to the program's text (the seventh form; the later family's looks); each row that meets fmt, with fmt's text TOLD by the authors' own Lean function (tested against real Go, not proved from fmt's source: count such statements apart). THE CARD IS WHAT COUNTS. Prove the row's statement (the work); the ties are given (YtndjcefmaakbgaaGreatDoorTie.lean); close each card by the builder's one call (the guide's Derived/Test/ToyasCard.lean, 'card_holds'). Laid BY PROGRAM, IN A SANDBOX (cutbox-door.mjs). By AI agents, Wed Nov 11 2026. No macro, syntax, notation, axiom, sorry.
-/
import Derived.Test.YtndjcefmaakbgaaGreatDoorRows
import GoSem.ClaimSeven
namespace Go.Proofs.YtndjcefmaakbgaaGreatDoor
namespace Rows

/-- THE TIED CARD OF 'laws.FnConsoleLots'. -/
def fnConsoleLotsCard : Claim7 := { stood := { row := fnConsoleLotsRow, standIns := [], harness := (true, "716061ae758f22bd1c3c6690968a87206f89810a37ff97c4d90a5a30c66bae5b"), looks := true }, kinds := [], alts := [], laidByText := true, laidKinds := [.data, .data, .data, .data, .sentinel, .sentinel, .pinned], laidTests := true, laidLooks := .later }
def FnConsoleLotsCardSaid : Prop := Claim7.holds Tryz.pinned (.plain (OpenSpec.ofChange fnConsoleLotsSpec)) fnConsoleLotsCard

/-- THE SECOND FORM's CARD OF 'laws.FnConsoleLots'. -/
def fnConsoleLotsUptoCard : Claim7 := { stood := { row := fnConsoleLotsUptoRow, standIns := [], harness := (true, "716061ae758f22bd1c3c6690968a87206f89810a37ff97c4d90a5a30c66bae5b"), looks := true }, kinds := [], alts := [], laidByText := true, laidKinds := [.data, .data, .data, .data, .sentinel, .sentinel, .pinned], laidTests := true, laidLooks := .later }
def FnConsoleLotsUptoCardSaid : Prop := Claim7.holds Tryz.pinned (.plain (OpenSpec.upto fnConsoleLotsSpec)) fnConsoleLotsUptoCard
end Rows
end Go.Proofs.YtndjcefmaakbgaaGreatDoor
