/-
  DERIVED. GIVEN WITH THE SEED: THE CARDS: each row of YtknnodgbhpbgjaaGreatDoorRows.lean that lists a variable, with what it lists TIED to the program's text (the seventh form; the later family's looks); each row that meets fmt, with fmt's text TOLD by the authors' own Lean function (tested against real Go, not proved from fmt's source: count such statements apart). THE CARD IS WHAT COUNTS. Prove the row's statement (the work); the ties are given (YtknnodgbhpbgjaaGreatDoorTie.lean); close each card by the builder's one call (the guide's Derived/Test/ToyasCard.lean, 'card_holds'). Laid BY PROGRAM, IN A SANDBOX (cutbox-door.mjs). By AI agents, Wed Nov 11 2026. No macro, syntax, notation, axiom, sorry.
-/
import Derived.Test.YtknnodgbhpbgjaaGreatDoorRows
import GoSem.ClaimSeven
namespace Go.Proofs.YtknnodgbhpbgjaaGreatDoor
namespace Rows

/-- THE TIED CARD OF 'provisionlaw32.StatefileWrites'. -/
def statefileWritesCard : Claim7 := { stood := { row := statefileWritesRow, standIns := [], harness := (true, "90eefb34e4fce0706cab4b963aeaa56475d68ff52cb72c778fee6f686a341f03"), looks := true }, kinds := [], alts := [], laidByText := true, laidKinds := [.data, .data, .data, .data, .sentinel, .sentinel, .pinned], laidTests := true, laidLooks := .later }
def StatefileWritesCardSaid : Prop := Claim7.holds Tryz.pinned (.plain (OpenSpec.ofChange statefileWritesSpec)) statefileWritesCard

/-- THE TIED CARD OF 'provisionlaw32.StatefileReads'. -/
def statefileReadsCard : Claim7 := { stood := { row := statefileReadsRow, standIns := [], harness := (true, "90eefb34e4fce0706cab4b963aeaa56475d68ff52cb72c778fee6f686a341f03"), looks := true }, kinds := [], alts := [], laidByText := true, laidKinds := [.data, .data, .data, .data, .sentinel, .sentinel, .pinned], laidTests := true, laidLooks := .later }
def StatefileReadsCardSaid : Prop := Claim7.holds Tryz.pinned (.plain (OpenSpec.ofChange statefileReadsSpec)) statefileReadsCard

/-- THE TIED CARD OF 'provisionlaw34.StorePlays'. -/
def storePlaysCard : Claim7 := { stood := { row := storePlaysRow, standIns := [], harness := (true, "90eefb34e4fce0706cab4b963aeaa56475d68ff52cb72c778fee6f686a341f03"), looks := true }, kinds := [], alts := [], laidByText := true, laidKinds := [.data, .data, .data, .data, .sentinel, .sentinel, .pinned], laidTests := true, laidLooks := .later }
def StorePlaysCardSaid : Prop := Claim7.holds Tryz.pinned (.plain (OpenSpec.ofChange storePlaysSpec)) storePlaysCard

/-- THE TIED CARD OF 'provisionlaw35.JournalRecords'. -/
def journalRecordsCard : Claim7 := { stood := { row := journalRecordsRow, standIns := [], harness := (true, "90eefb34e4fce0706cab4b963aeaa56475d68ff52cb72c778fee6f686a341f03"), looks := true }, kinds := [], alts := [], laidByText := true, laidKinds := [.data, .data, .data, .data, .sentinel, .sentinel, .pinned], laidTests := true, laidLooks := .later }
def JournalRecordsCardSaid : Prop := Claim7.holds Tryz.pinned (.plain (OpenSpec.ofChange journalRecordsSpec)) journalRecordsCard

/-- THE TIED CARD OF 'provisionlaw35.JournalReads'. -/
def journalReadsCard : Claim7 := { stood := { row := journalReadsRow, standIns := [], harness := (true, "90eefb34e4fce0706cab4b963aeaa56475d68ff52cb72c778fee6f686a341f03"), looks := true }, kinds := [], alts := [], laidByText := true, laidKinds := [.data, .data, .data, .data, .sentinel, .sentinel, .pinned], laidTests := true, laidLooks := .later }
def JournalReadsCardSaid : Prop := Claim7.holds Tryz.pinned (.plain (OpenSpec.ofChange journalReadsSpec)) journalReadsCard

/-- THE TIED CARD OF 'provisionlaw35.JournalChecks'. -/
def journalChecksCard : Claim7 := { stood := { row := journalChecksRow, standIns := [], harness := (true, "90eefb34e4fce0706cab4b963aeaa56475d68ff52cb72c778fee6f686a341f03"), looks := true }, kinds := [], alts := [], laidByText := true, laidKinds := [.data, .data, .data, .data, .sentinel, .sentinel, .pinned], laidTests := true, laidLooks := .later }
def JournalChecksCardSaid : Prop := Claim7.holds Tryz.pinned (.plain (OpenSpec.ofChange journalChecksSpec)) journalChecksCard

/-- THE TIED CARD OF 'provisionlaw35.JournalDamage'. -/
def journalDamageCard : Claim7 := { stood := { row := journalDamageRow, standIns := [], harness := (true, "90eefb34e4fce0706cab4b963aeaa56475d68ff52cb72c778fee6f686a341f03"), looks := true }, kinds := [], alts := [], laidByText := true, laidKinds := [.data, .data, .data, .data, .sentinel, .sentinel, .pinned], laidTests := true, laidLooks := .later }
def JournalDamageCardSaid : Prop := Claim7.holds Tryz.pinned (.plain (OpenSpec.ofChange journalDamageSpec)) journalDamageCard

/-- THE TIED CARD OF 'provisionlaw35.JournalBegins'. -/
def journalBeginsCard : Claim7 := { stood := { row := journalBeginsRow, standIns := [], harness := (true, "90eefb34e4fce0706cab4b963aeaa56475d68ff52cb72c778fee6f686a341f03"), looks := true }, kinds := [], alts := [], laidByText := true, laidKinds := [.data, .data, .data, .data, .sentinel, .sentinel, .pinned], laidTests := true, laidLooks := .later }
def JournalBeginsCardSaid : Prop := Claim7.holds Tryz.pinned (.plain (OpenSpec.ofChange journalBeginsSpec)) journalBeginsCard

/-- THE TIED CARD OF 'provisionlaw35.JournalLogs'. -/
def journalLogsCard : Claim7 := { stood := { row := journalLogsRow, standIns := [], harness := (true, "90eefb34e4fce0706cab4b963aeaa56475d68ff52cb72c778fee6f686a341f03"), looks := true }, kinds := [], alts := [], laidByText := true, laidKinds := [.data, .data, .data, .data, .sentinel, .sentinel, .pinned], laidTests := true, laidLooks := .later }
def JournalLogsCardSaid : Prop := Claim7.holds Tryz.pinned (.plain (OpenSpec.ofChange journalLogsSpec)) journalLogsCard

/-- THE TIED CARD OF 'provisionlaw35.JournalPrefix'. -/
def journalPrefixCard : Claim7 := { stood := { row := journalPrefixRow, standIns := [], harness := (true, "90eefb34e4fce0706cab4b963aeaa56475d68ff52cb72c778fee6f686a341f03"), looks := true }, kinds := [], alts := [], laidByText := true, laidKinds := [.data, .data, .data, .data, .sentinel, .sentinel, .pinned], laidTests := true, laidLooks := .later }
def JournalPrefixCardSaid : Prop := Claim7.holds Tryz.pinned (.plain (OpenSpec.ofChange journalPrefixSpec)) journalPrefixCard

/-- THE TIED CARD OF 'provisionlaw51.WorkspaceNews'. -/
def workspaceNewsCard : Claim7 := { stood := { row := workspaceNewsRow, standIns := [], harness := (true, "90eefb34e4fce0706cab4b963aeaa56475d68ff52cb72c778fee6f686a341f03"), looks := true }, kinds := [], alts := [], laidByText := true, laidKinds := [.data, .data, .data, .data, .sentinel, .sentinel, .pinned], laidTests := true, laidLooks := .later }
def WorkspaceNewsCardSaid : Prop := Claim7.holds Tryz.pinned (.plain (OpenSpec.ofChange workspaceNewsSpec)) workspaceNewsCard

/-- THE TIED CARD OF 'provisionlaw51.WorkspaceNil'. -/
def workspaceNilCard : Claim7 := { stood := { row := workspaceNilRow, standIns := [], harness := (true, "90eefb34e4fce0706cab4b963aeaa56475d68ff52cb72c778fee6f686a341f03"), looks := true }, kinds := [], alts := [], laidByText := true, laidKinds := [.data, .data, .data, .data, .sentinel, .sentinel, .pinned], laidTests := true, laidLooks := .later }
def WorkspaceNilCardSaid : Prop := Claim7.holds Tryz.pinned (.plain (OpenSpec.ofChange workspaceNilSpec)) workspaceNilCard

/-- THE SECOND FORM's CARD OF 'provisionlaw32.StatefileWrites'. -/
def statefileWritesUptoCard : Claim7 := { stood := { row := statefileWritesUptoRow, standIns := [], harness := (true, "90eefb34e4fce0706cab4b963aeaa56475d68ff52cb72c778fee6f686a341f03"), looks := true }, kinds := [], alts := [], laidByText := true, laidKinds := [.data, .data, .data, .data, .sentinel, .sentinel, .pinned], laidTests := true, laidLooks := .later }
def StatefileWritesUptoCardSaid : Prop := Claim7.holds Tryz.pinned (.plain (OpenSpec.upto statefileWritesSpec)) statefileWritesUptoCard

/-- THE SECOND FORM's CARD OF 'provisionlaw32.StatefileReads'. -/
def statefileReadsUptoCard : Claim7 := { stood := { row := statefileReadsUptoRow, standIns := [], harness := (true, "90eefb34e4fce0706cab4b963aeaa56475d68ff52cb72c778fee6f686a341f03"), looks := true }, kinds := [], alts := [], laidByText := true, laidKinds := [.data, .data, .data, .data, .sentinel, .sentinel, .pinned], laidTests := true, laidLooks := .later }
def StatefileReadsUptoCardSaid : Prop := Claim7.holds Tryz.pinned (.plain (OpenSpec.upto statefileReadsSpec)) statefileReadsUptoCard

/-- THE SECOND FORM's CARD OF 'provisionlaw34.StorePlays'. -/
def storePlaysUptoCard : Claim7 := { stood := { row := storePlaysUptoRow, standIns := [], harness := (true, "90eefb34e4fce0706cab4b963aeaa56475d68ff52cb72c778fee6f686a341f03"), looks := true }, kinds := [], alts := [], laidByText := true, laidKinds := [.data, .data, .data, .data, .sentinel, .sentinel, .pinned], laidTests := true, laidLooks := .later }
def StorePlaysUptoCardSaid : Prop := Claim7.holds Tryz.pinned (.plain (OpenSpec.upto storePlaysSpec)) storePlaysUptoCard

/-- THE SECOND FORM's CARD OF 'provisionlaw35.JournalRecords'. -/
def journalRecordsUptoCard : Claim7 := { stood := { row := journalRecordsUptoRow, standIns := [], harness := (true, "90eefb34e4fce0706cab4b963aeaa56475d68ff52cb72c778fee6f686a341f03"), looks := true }, kinds := [], alts := [], laidByText := true, laidKinds := [.data, .data, .data, .data, .sentinel, .sentinel, .pinned], laidTests := true, laidLooks := .later }
def JournalRecordsUptoCardSaid : Prop := Claim7.holds Tryz.pinned (.plain (OpenSpec.upto journalRecordsSpec)) journalRecordsUptoCard

/-- THE SECOND FORM's CARD OF 'provisionlaw35.JournalReads'. -/
def journalReadsUptoCard : Claim7 := { stood := { row := journalReadsUptoRow, standIns := [], harness := (true, "90eefb34e4fce0706cab4b963aeaa56475d68ff52cb72c778fee6f686a341f03"), looks := true }, kinds := [], alts := [], laidByText := true, laidKinds := [.data, .data, .data, .data, .sentinel, .sentinel, .pinned], laidTests := true, laidLooks := .later }
def JournalReadsUptoCardSaid : Prop := Claim7.holds Tryz.pinned (.plain (OpenSpec.upto journalReadsSpec)) journalReadsUptoCard

/-- THE SECOND FORM's CARD OF 'provisionlaw35.JournalChecks'. -/
def journalChecksUptoCard : Claim7 := { stood := { row := journalChecksUptoRow, standIns := [], harness := (true, "90eefb34e4fce0706cab4b963aeaa56475d68ff52cb72c778fee6f686a341f03"), looks := true }, kinds := [], alts := [], laidByText := true, laidKinds := [.data, .data, .data, .data, .sentinel, .sentinel, .pinned], laidTests := true, laidLooks := .later }
def JournalChecksUptoCardSaid : Prop := Claim7.holds Tryz.pinned (.plain (OpenSpec.upto journalChecksSpec)) journalChecksUptoCard

/-- THE SECOND FORM's CARD OF 'provisionlaw35.JournalDamage'. -/
def journalDamageUptoCard : Claim7 := { stood := { row := journalDamageUptoRow, standIns := [], harness := (true, "90eefb34e4fce0706cab4b963aeaa56475d68ff52cb72c778fee6f686a341f03"), looks := true }, kinds := [], alts := [], laidByText := true, laidKinds := [.data, .data, .data, .data, .sentinel, .sentinel, .pinned], laidTests := true, laidLooks := .later }
def JournalDamageUptoCardSaid : Prop := Claim7.holds Tryz.pinned (.plain (OpenSpec.upto journalDamageSpec)) journalDamageUptoCard

/-- THE SECOND FORM's CARD OF 'provisionlaw35.JournalBegins'. -/
def journalBeginsUptoCard : Claim7 := { stood := { row := journalBeginsUptoRow, standIns := [], harness := (true, "90eefb34e4fce0706cab4b963aeaa56475d68ff52cb72c778fee6f686a341f03"), looks := true }, kinds := [], alts := [], laidByText := true, laidKinds := [.data, .data, .data, .data, .sentinel, .sentinel, .pinned], laidTests := true, laidLooks := .later }
def JournalBeginsUptoCardSaid : Prop := Claim7.holds Tryz.pinned (.plain (OpenSpec.upto journalBeginsSpec)) journalBeginsUptoCard

/-- THE SECOND FORM's CARD OF 'provisionlaw35.JournalLogs'. -/
def journalLogsUptoCard : Claim7 := { stood := { row := journalLogsUptoRow, standIns := [], harness := (true, "90eefb34e4fce0706cab4b963aeaa56475d68ff52cb72c778fee6f686a341f03"), looks := true }, kinds := [], alts := [], laidByText := true, laidKinds := [.data, .data, .data, .data, .sentinel, .sentinel, .pinned], laidTests := true, laidLooks := .later }
def JournalLogsUptoCardSaid : Prop := Claim7.holds Tryz.pinned (.plain (OpenSpec.upto journalLogsSpec)) journalLogsUptoCard

/-- THE SECOND FORM's CARD OF 'provisionlaw35.JournalPrefix'. -/
def journalPrefixUptoCard : Claim7 := { stood := { row := journalPrefixUptoRow, standIns := [], harness := (true, "90eefb34e4fce0706cab4b963aeaa56475d68ff52cb72c778fee6f686a341f03"), looks := true }, kinds := [], alts := [], laidByText := true, laidKinds := [.data, .data, .data, .data, .sentinel, .sentinel, .pinned], laidTests := true, laidLooks := .later }
def JournalPrefixUptoCardSaid : Prop := Claim7.holds Tryz.pinned (.plain (OpenSpec.upto journalPrefixSpec)) journalPrefixUptoCard

/-- THE SECOND FORM's CARD OF 'provisionlaw51.WorkspaceNews'. -/
def workspaceNewsUptoCard : Claim7 := { stood := { row := workspaceNewsUptoRow, standIns := [], harness := (true, "90eefb34e4fce0706cab4b963aeaa56475d68ff52cb72c778fee6f686a341f03"), looks := true }, kinds := [], alts := [], laidByText := true, laidKinds := [.data, .data, .data, .data, .sentinel, .sentinel, .pinned], laidTests := true, laidLooks := .later }
def WorkspaceNewsUptoCardSaid : Prop := Claim7.holds Tryz.pinned (.plain (OpenSpec.upto workspaceNewsSpec)) workspaceNewsUptoCard

/-- THE SECOND FORM's CARD OF 'provisionlaw51.WorkspaceNil'. -/
def workspaceNilUptoCard : Claim7 := { stood := { row := workspaceNilUptoRow, standIns := [], harness := (true, "90eefb34e4fce0706cab4b963aeaa56475d68ff52cb72c778fee6f686a341f03"), looks := true }, kinds := [], alts := [], laidByText := true, laidKinds := [.data, .data, .data, .data, .sentinel, .sentinel, .pinned], laidTests := true, laidLooks := .later }
def WorkspaceNilUptoCardSaid : Prop := Claim7.holds Tryz.pinned (.plain (OpenSpec.upto workspaceNilSpec)) workspaceNilUptoCard
end Rows
end Go.Proofs.YtknnodgbhpbgjaaGreatDoor
