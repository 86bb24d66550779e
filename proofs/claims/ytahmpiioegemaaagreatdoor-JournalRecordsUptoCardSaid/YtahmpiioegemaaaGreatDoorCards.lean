/-
  DERIVED. GIVEN WITH THE SEED: THE CARDS: each row of YtahmpiioegemaaaGreatDoorRows.lean that lists a variable, with what it lists TIED to the program's text (the seventh form; the later family's looks); each row that meets fmt, with fmt's text TOLD by the authors' own Lean function (tested against real Go, not proved from fmt's source: count such statements apart). THE CARD IS WHAT COUNTS. Prove the row's statement (the work); the ties are given (YtahmpiioegemaaaGreatDoorTie.lean); close each card by the builder's one call (the guide's Derived/Test/ToyasCard.lean, 'card_holds'). Laid BY PROGRAM, IN A SANDBOX (cutbox-door.mjs). By AI agents, Wed Nov 11 2026. No macro, syntax, notation, axiom, sorry.
-/
import Derived.Test.YtahmpiioegemaaaGreatDoorRows
import GoSem.ClaimSeven
namespace Go.Proofs.YtahmpiioegemaaaGreatDoor
namespace Rows

/-- THE TIED CARD OF 'provisionlaw35.JournalRecords'. -/
def journalRecordsCard : Claim7 := { stood := { row := journalRecordsRow, standIns := [], harness := (true, "169f5d75ad620d2eafc4a89ec15b64b4449dccecbc3b990e727a01b436eb34ca"), looks := true }, kinds := [], alts := [], laidByText := true, laidKinds := [.data, .data, .data, .data, .sentinel, .sentinel, .pinned], laidTests := true, laidLooks := .later }
def JournalRecordsCardSaid : Prop := Claim7.holds Tryz.pinned (.plain (OpenSpec.ofChange journalRecordsSpec)) journalRecordsCard

/-- THE TIED CARD OF 'provisionlaw35.JournalReads'. -/
def journalReadsCard : Claim7 := { stood := { row := journalReadsRow, standIns := [], harness := (true, "169f5d75ad620d2eafc4a89ec15b64b4449dccecbc3b990e727a01b436eb34ca"), looks := true }, kinds := [], alts := [], laidByText := true, laidKinds := [.data, .data, .data, .data, .sentinel, .sentinel, .pinned], laidTests := true, laidLooks := .later }
def JournalReadsCardSaid : Prop := Claim7.holds Tryz.pinned (.plain (OpenSpec.ofChange journalReadsSpec)) journalReadsCard

/-- THE TIED CARD OF 'provisionlaw35.JournalLogs'. -/
def journalLogsCard : Claim7 := { stood := { row := journalLogsRow, standIns := [], harness := (true, "169f5d75ad620d2eafc4a89ec15b64b4449dccecbc3b990e727a01b436eb34ca"), looks := true }, kinds := [], alts := [], laidByText := true, laidKinds := [.data, .data, .data, .data, .sentinel, .sentinel, .pinned], laidTests := true, laidLooks := .later }
def JournalLogsCardSaid : Prop := Claim7.holds Tryz.pinned (.plain (OpenSpec.ofChange journalLogsSpec)) journalLogsCard

/-- THE TIED CARD OF 'provisionlaw35.JournalPrefix'. -/
def journalPrefixCard : Claim7 := { stood := { row := journalPrefixRow, standIns := [], harness := (true, "169f5d75ad620d2eafc4a89ec15b64b4449dccecbc3b990e727a01b436eb34ca"), looks := true }, kinds := [], alts := [], laidByText := true, laidKinds := [.data, .data, .data, .data, .sentinel, .sentinel, .pinned], laidTests := true, laidLooks := .later }
def JournalPrefixCardSaid : Prop := Claim7.holds Tryz.pinned (.plain (OpenSpec.ofChange journalPrefixSpec)) journalPrefixCard

/-- THE TIED CARD OF 'provisionlaw35.JournalDamage'. -/
def journalDamageCard : Claim7 := { stood := { row := journalDamageRow, standIns := [], harness := (true, "169f5d75ad620d2eafc4a89ec15b64b4449dccecbc3b990e727a01b436eb34ca"), looks := true }, kinds := [], alts := [], laidByText := true, laidKinds := [.data, .data, .data, .data, .sentinel, .sentinel, .pinned], laidTests := true, laidLooks := .later }
def JournalDamageCardSaid : Prop := Claim7.holds Tryz.pinned (.plain (OpenSpec.ofChange journalDamageSpec)) journalDamageCard

/-- THE SECOND FORM's CARD OF 'provisionlaw35.JournalRecords'. -/
def journalRecordsUptoCard : Claim7 := { stood := { row := journalRecordsUptoRow, standIns := [], harness := (true, "169f5d75ad620d2eafc4a89ec15b64b4449dccecbc3b990e727a01b436eb34ca"), looks := true }, kinds := [], alts := [], laidByText := true, laidKinds := [.data, .data, .data, .data, .sentinel, .sentinel, .pinned], laidTests := true, laidLooks := .later }
def JournalRecordsUptoCardSaid : Prop := Claim7.holds Tryz.pinned (.plain (OpenSpec.upto journalRecordsSpec)) journalRecordsUptoCard

/-- THE SECOND FORM's CARD OF 'provisionlaw35.JournalReads'. -/
def journalReadsUptoCard : Claim7 := { stood := { row := journalReadsUptoRow, standIns := [], harness := (true, "169f5d75ad620d2eafc4a89ec15b64b4449dccecbc3b990e727a01b436eb34ca"), looks := true }, kinds := [], alts := [], laidByText := true, laidKinds := [.data, .data, .data, .data, .sentinel, .sentinel, .pinned], laidTests := true, laidLooks := .later }
def JournalReadsUptoCardSaid : Prop := Claim7.holds Tryz.pinned (.plain (OpenSpec.upto journalReadsSpec)) journalReadsUptoCard

/-- THE SECOND FORM's CARD OF 'provisionlaw35.JournalLogs'. -/
def journalLogsUptoCard : Claim7 := { stood := { row := journalLogsUptoRow, standIns := [], harness := (true, "169f5d75ad620d2eafc4a89ec15b64b4449dccecbc3b990e727a01b436eb34ca"), looks := true }, kinds := [], alts := [], laidByText := true, laidKinds := [.data, .data, .data, .data, .sentinel, .sentinel, .pinned], laidTests := true, laidLooks := .later }
def JournalLogsUptoCardSaid : Prop := Claim7.holds Tryz.pinned (.plain (OpenSpec.upto journalLogsSpec)) journalLogsUptoCard

/-- THE SECOND FORM's CARD OF 'provisionlaw35.JournalPrefix'. -/
def journalPrefixUptoCard : Claim7 := { stood := { row := journalPrefixUptoRow, standIns := [], harness := (true, "169f5d75ad620d2eafc4a89ec15b64b4449dccecbc3b990e727a01b436eb34ca"), looks := true }, kinds := [], alts := [], laidByText := true, laidKinds := [.data, .data, .data, .data, .sentinel, .sentinel, .pinned], laidTests := true, laidLooks := .later }
def JournalPrefixUptoCardSaid : Prop := Claim7.holds Tryz.pinned (.plain (OpenSpec.upto journalPrefixSpec)) journalPrefixUptoCard

/-- THE SECOND FORM's CARD OF 'provisionlaw35.JournalDamage'. -/
def journalDamageUptoCard : Claim7 := { stood := { row := journalDamageUptoRow, standIns := [], harness := (true, "169f5d75ad620d2eafc4a89ec15b64b4449dccecbc3b990e727a01b436eb34ca"), looks := true }, kinds := [], alts := [], laidByText := true, laidKinds := [.data, .data, .data, .data, .sentinel, .sentinel, .pinned], laidTests := true, laidLooks := .later }
def JournalDamageUptoCardSaid : Prop := Claim7.holds Tryz.pinned (.plain (OpenSpec.upto journalDamageSpec)) journalDamageUptoCard
end Rows
end Go.Proofs.YtahmpiioegemaaaGreatDoor
