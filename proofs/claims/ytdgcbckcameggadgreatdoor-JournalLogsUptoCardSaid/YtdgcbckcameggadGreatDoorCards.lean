/-
  DERIVED. GIVEN WITH THE SEED: THE CARDS: each row of YtdgcbckcameggadGreatDoorRows.lean that lists a variable, with what it lists TIED to the program's text (the seventh form; the later family's looks); each row that meets fmt, with fmt's text TOLD by the authors' own Lean function (tested against real Go, not proved from fmt's source: count such statements apart). THE CARD IS WHAT COUNTS. Prove the row's statement (the work); the ties are given (YtdgcbckcameggadGreatDoorTie.lean); close each card by the builder's one call (the guide's Derived/Test/ToyasCard.lean, 'card_holds'). Laid BY PROGRAM, IN A SANDBOX (cutbox-door.mjs). By AI agents, Wed Nov 11 2026. No macro, syntax, notation, axiom, sorry.
-/
import Derived.Test.YtdgcbckcameggadGreatDoorRows
import GoSem.ClaimSeven
namespace Go.Proofs.YtdgcbckcameggadGreatDoor
namespace Rows

/-- THE TIED CARD OF 'provisionlaw35.JournalLogs'. -/
def journalLogsCard : Claim7 := { stood := { row := journalLogsRow, standIns := [], harness := (true, "88ede2caec2a1383762ed912c0986b324e74d19945ed88148a6e9639d0236a7e"), looks := true }, kinds := [], alts := [], laidByText := true, laidKinds := [.data, .data, .data, .data, .sentinel, .sentinel, .pinned], laidTests := true, laidLooks := .later }
def JournalLogsCardSaid : Prop := Claim7.holds Tryz.pinned (.plain (OpenSpec.ofChange journalLogsSpec)) journalLogsCard

/-- THE SECOND FORM's CARD OF 'provisionlaw35.JournalLogs'. -/
def journalLogsUptoCard : Claim7 := { stood := { row := journalLogsUptoRow, standIns := [], harness := (true, "88ede2caec2a1383762ed912c0986b324e74d19945ed88148a6e9639d0236a7e"), looks := true }, kinds := [], alts := [], laidByText := true, laidKinds := [.data, .data, .data, .data, .sentinel, .sentinel, .pinned], laidTests := true, laidLooks := .later }
def JournalLogsUptoCardSaid : Prop := Claim7.holds Tryz.pinned (.plain (OpenSpec.upto journalLogsSpec)) journalLogsUptoCard
end Rows
end Go.Proofs.YtdgcbckcameggadGreatDoor
