/-
  DERIVED. GIVEN WITH THE SEED: THE CARDS: each row of YtogbimnakonbpaaDoorRows.lean that lists a variable, with what it lists TIED to the program's text (the seventh form; the later family's looks); each row that meets fmt, with fmt's text TOLD by the authors' own Lean function (tested against real Go, not proved from fmt's source: count such statements apart). THE CARD IS WHAT COUNTS. Prove the row's statement (the work); the ties are given (YtogbimnakonbpaaDoorTie.lean); close each card by the builder's one call (the guide's Derived/Test/ToyasCard.lean, 'card_holds'). Laid BY PROGRAM, IN A SANDBOX (cutbox-door.mjs). By AI agents, Wed Nov 11 2026. No macro, syntax, notation, axiom, sorry.
-/
import Derived.Test.YtogbimnakonbpaaDoorRows
import GoSem.ClaimSeven
namespace Go.Proofs.YtogbimnakonbpaaDoor
namespace Rows

/-- THE TIED CARD OF 'laws.FnExactCrashLog'. -/
def fnExactCrashLogCard : Claim7 := { stood := { row := fnExactCrashLogRow, standIns := [], harness := (true, "ea86154d3b46c7c0d14a6326f10e0231a06db60ef8b9ff7b8d2e711880c24f99"), looks := false }, kinds := [], alts := [], laidByText := true, laidKinds := [.data, .data, .data], laidTests := true, laidLooks := .later }
def FnExactCrashLogCardSaid : Prop := Claim7.holds Tryd.pinned (.plain (OpenSpec.ofChange fnExactCrashLogSpec)) fnExactCrashLogCard

/-- THE TIED CARD OF 'laws.FnExactSyncLog'. -/
def fnExactSyncLogCard : Claim7 := { stood := { row := fnExactSyncLogRow, standIns := [], harness := (true, "ea86154d3b46c7c0d14a6326f10e0231a06db60ef8b9ff7b8d2e711880c24f99"), looks := false }, kinds := [], alts := [], laidByText := true, laidKinds := [.data, .data, .data], laidTests := true, laidLooks := .later }
def FnExactSyncLogCardSaid : Prop := Claim7.holds Tryd.pinned (.plain (OpenSpec.ofChange fnExactSyncLogSpec)) fnExactSyncLogCard

/-- THE SECOND FORM's CARD OF 'laws.FnExactCrashLog'. -/
def fnExactCrashLogUptoCard : Claim7 := { stood := { row := fnExactCrashLogUptoRow, standIns := [], harness := (true, "ea86154d3b46c7c0d14a6326f10e0231a06db60ef8b9ff7b8d2e711880c24f99"), looks := false }, kinds := [], alts := [], laidByText := true, laidKinds := [.data, .data, .data], laidTests := true, laidLooks := .later }
def FnExactCrashLogUptoCardSaid : Prop := Claim7.holds Tryd.pinned (.plain (OpenSpec.upto fnExactCrashLogSpec)) fnExactCrashLogUptoCard

/-- THE SECOND FORM's CARD OF 'laws.FnExactSyncLog'. -/
def fnExactSyncLogUptoCard : Claim7 := { stood := { row := fnExactSyncLogUptoRow, standIns := [], harness := (true, "ea86154d3b46c7c0d14a6326f10e0231a06db60ef8b9ff7b8d2e711880c24f99"), looks := false }, kinds := [], alts := [], laidByText := true, laidKinds := [.data, .data, .data], laidTests := true, laidLooks := .later }
def FnExactSyncLogUptoCardSaid : Prop := Claim7.holds Tryd.pinned (.plain (OpenSpec.upto fnExactSyncLogSpec)) fnExactSyncLogUptoCard
end Rows
end Go.Proofs.YtogbimnakonbpaaDoor
