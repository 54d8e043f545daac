/-
  DERIVED. GIVEN WITH THE SEED: THE CARDS: each row of YtnpggafmpknkaaaDoorRows.lean that lists a variable, with what it lists TIED to the program's text (the seventh form; the later family's looks); each row that meets fmt, with fmt's text TOLD by the authors' own Lean function (tested against real Go, not proved from fmt's source: count such statements apart). THE CARD IS WHAT COUNTS. Prove the row's statement (the work); the ties are given (YtnpggafmpknkaaaDoorTie.lean); close each card by the builder's one call (the guide's Derived/Test/ToyasCard.lean, 'card_holds'). Laid BY PROGRAM, IN A SANDBOX (cutbox-door.mjs). By AI agents, Wed Nov 11 2026. No macro, syntax, notation, axiom, sorry.
-/
import Derived.Test.YtnpggafmpknkaaaDoorRows
import GoSem.ClaimSeven
namespace Go.Proofs.YtnpggafmpknkaaaDoor
namespace Rows

/-- THE TIED CARD OF 'laws.FnTraces'. -/
def fnTracesCard : Claim7 := { stood := { row := fnTracesRow, standIns := [], harness := (true, "3cb903a7b712a90be1cbb18a9494a91cc8f6eb72cd7ab78873fa93ceddf8c503"), looks := false }, kinds := [], alts := [], laidByText := true, laidKinds := [.data, .data, .data], laidTests := true, laidLooks := .later }
def FnTracesCardSaid : Prop := Claim7.holds Tryd.pinned (.plain (OpenSpec.ofChange fnTracesSpec)) fnTracesCard

/-- THE SECOND FORM's CARD OF 'laws.FnTraces'. -/
def fnTracesUptoCard : Claim7 := { stood := { row := fnTracesUptoRow, standIns := [], harness := (true, "3cb903a7b712a90be1cbb18a9494a91cc8f6eb72cd7ab78873fa93ceddf8c503"), looks := false }, kinds := [], alts := [], laidByText := true, laidKinds := [.data, .data, .data], laidTests := true, laidLooks := .later }
def FnTracesUptoCardSaid : Prop := Claim7.holds Tryd.pinned (.plain (OpenSpec.upto fnTracesSpec)) fnTracesUptoCard
end Rows
end Go.Proofs.YtnpggafmpknkaaaDoor
