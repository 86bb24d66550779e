/-
  DERIVED. GIVEN WITH THE SEED: THE CARDS: each row of YtkhhnkceiibmfaaGreatDoorRows.lean that lists a variable, with what it lists TIED to the program's text (the seventh form; the later family's looks); each row that meets fmt, with fmt's text TOLD by the authors' own Lean function (tested against real Go, not proved from fmt's source: count such statements apart). THE CARD IS WHAT COUNTS. Prove the row's statement (the work); the ties are given (YtkhhnkceiibmfaaGreatDoorTie.lean); close each card by the builder's one call (the guide's Derived/Test/ToyasCard.lean, 'card_holds'). Laid BY PROGRAM, IN A SANDBOX (cutbox-door.mjs). By AI agents, Wed Nov 11 2026. No macro, syntax, notation, axiom, sorry.
-/
import Derived.Test.YtkhhnkceiibmfaaGreatDoorRows
import GoSem.ClaimSeven
namespace Go.Proofs.YtkhhnkceiibmfaaGreatDoor
namespace Rows

/-- THE TIED CARD OF 'provisionlaw32.StatefileWrites'. -/
def statefileWritesCard : Claim7 := { stood := { row := statefileWritesRow, standIns := [], harness := (true, "f48766695068971f14089801f1e31306166559f6d2553feefb38c27940b6ca2d"), looks := true }, kinds := [], alts := [], laidByText := true, laidKinds := [.data, .data, .data, .data, .sentinel, .sentinel, .pinned], laidTests := true, laidLooks := .later }
def StatefileWritesCardSaid : Prop := Claim7.holds Tryz.pinned (.plain (OpenSpec.ofChange statefileWritesSpec)) statefileWritesCard

/-- THE TIED CARD OF 'provisionlaw32.StatefileReads'. -/
def statefileReadsCard : Claim7 := { stood := { row := statefileReadsRow, standIns := [], harness := (true, "f48766695068971f14089801f1e31306166559f6d2553feefb38c27940b6ca2d"), looks := true }, kinds := [], alts := [], laidByText := true, laidKinds := [.data, .data, .data, .data, .sentinel, .sentinel, .pinned], laidTests := true, laidLooks := .later }
def StatefileReadsCardSaid : Prop := Claim7.holds Tryz.pinned (.plain (OpenSpec.ofChange statefileReadsSpec)) statefileReadsCard

/-- THE TIED CARD OF 'provisionlaw32.StatefileOnce'. -/
def statefileOnceCard : Claim7 := { stood := { row := statefileOnceRow, standIns := [], harness := (true, "f48766695068971f14089801f1e31306166559f6d2553feefb38c27940b6ca2d"), looks := true }, kinds := [], alts := [], laidByText := true, laidKinds := [.data, .data, .data, .data, .sentinel, .sentinel, .pinned], laidTests := true, laidLooks := .later }
def StatefileOnceCardSaid : Prop := Claim7.holds Tryz.pinned (.plain (OpenSpec.ofChange statefileOnceSpec)) statefileOnceCard

/-- THE TIED CARD OF 'provisionlaw32.StatefileBack'. -/
def statefileBackCard : Claim7 := { stood := { row := statefileBackRow, standIns := [], harness := (true, "f48766695068971f14089801f1e31306166559f6d2553feefb38c27940b6ca2d"), looks := true }, kinds := [], alts := [], laidByText := true, laidKinds := [.data, .data, .data, .data, .sentinel, .sentinel, .pinned], laidTests := true, laidLooks := .later }
def StatefileBackCardSaid : Prop := Claim7.holds Tryz.pinned (.plain (OpenSpec.ofChange statefileBackSpec)) statefileBackCard

/-- THE TIED CARD OF 'provisionlaw34.StoreKeeps'. -/
def storeKeepsCard : Claim7 := { stood := { row := storeKeepsRow, standIns := [], harness := (true, "f48766695068971f14089801f1e31306166559f6d2553feefb38c27940b6ca2d"), looks := true }, kinds := [], alts := [], laidByText := true, laidKinds := [.data, .data, .data, .data, .sentinel, .sentinel, .pinned], laidTests := true, laidLooks := .later }
def StoreKeepsCardSaid : Prop := Claim7.holds Tryz.pinned (.plain (OpenSpec.ofChange storeKeepsSpec)) storeKeepsCard

/-- THE TIED CARD OF 'provisionlaw34.StorePlays'. -/
def storePlaysCard : Claim7 := { stood := { row := storePlaysRow, standIns := [], harness := (true, "f48766695068971f14089801f1e31306166559f6d2553feefb38c27940b6ca2d"), looks := true }, kinds := [], alts := [], laidByText := true, laidKinds := [.data, .data, .data, .data, .sentinel, .sentinel, .pinned], laidTests := true, laidLooks := .later }
def StorePlaysCardSaid : Prop := Claim7.holds Tryz.pinned (.plain (OpenSpec.ofChange storePlaysSpec)) storePlaysCard

/-- THE TIED CARD OF 'provisionlaw34.StoreNobody'. -/
def storeNobodyCard : Claim7 := { stood := { row := storeNobodyRow, standIns := [], harness := (true, "f48766695068971f14089801f1e31306166559f6d2553feefb38c27940b6ca2d"), looks := true }, kinds := [], alts := [], laidByText := true, laidKinds := [.data, .data, .data, .data, .sentinel, .sentinel, .pinned], laidTests := true, laidLooks := .later }
def StoreNobodyCardSaid : Prop := Claim7.holds Tryz.pinned (.plain (OpenSpec.ofChange storeNobodySpec)) storeNobodyCard

/-- THE TIED CARD OF 'provisionlaw34.StoreVersions'. -/
def storeVersionsCard : Claim7 := { stood := { row := storeVersionsRow, standIns := [], harness := (true, "f48766695068971f14089801f1e31306166559f6d2553feefb38c27940b6ca2d"), looks := true }, kinds := [], alts := [], laidByText := true, laidKinds := [.data, .data, .data, .data, .sentinel, .sentinel, .pinned], laidTests := true, laidLooks := .later }
def StoreVersionsCardSaid : Prop := Claim7.holds Tryz.pinned (.plain (OpenSpec.ofChange storeVersionsSpec)) storeVersionsCard

/-- THE TIED CARD OF 'provisionlaw51.WorkspaceNews'. -/
def workspaceNewsCard : Claim7 := { stood := { row := workspaceNewsRow, standIns := [], harness := (true, "f48766695068971f14089801f1e31306166559f6d2553feefb38c27940b6ca2d"), looks := true }, kinds := [], alts := [], laidByText := true, laidKinds := [.data, .data, .data, .data, .sentinel, .sentinel, .pinned], laidTests := true, laidLooks := .later }
def WorkspaceNewsCardSaid : Prop := Claim7.holds Tryz.pinned (.plain (OpenSpec.ofChange workspaceNewsSpec)) workspaceNewsCard

/-- THE TIED CARD OF 'provisionlaw51.WorkspaceNil'. -/
def workspaceNilCard : Claim7 := { stood := { row := workspaceNilRow, standIns := [], harness := (true, "f48766695068971f14089801f1e31306166559f6d2553feefb38c27940b6ca2d"), looks := true }, kinds := [], alts := [], laidByText := true, laidKinds := [.data, .data, .data, .data, .sentinel, .sentinel, .pinned], laidTests := true, laidLooks := .later }
def WorkspaceNilCardSaid : Prop := Claim7.holds Tryz.pinned (.plain (OpenSpec.ofChange workspaceNilSpec)) workspaceNilCard

/-- THE SECOND FORM's CARD OF 'provisionlaw32.StatefileWrites'. -/
def statefileWritesUptoCard : Claim7 := { stood := { row := statefileWritesUptoRow, standIns := [], harness := (true, "f48766695068971f14089801f1e31306166559f6d2553feefb38c27940b6ca2d"), looks := true }, kinds := [], alts := [], laidByText := true, laidKinds := [.data, .data, .data, .data, .sentinel, .sentinel, .pinned], laidTests := true, laidLooks := .later }
def StatefileWritesUptoCardSaid : Prop := Claim7.holds Tryz.pinned (.plain (OpenSpec.upto statefileWritesSpec)) statefileWritesUptoCard

/-- THE SECOND FORM's CARD OF 'provisionlaw32.StatefileReads'. -/
def statefileReadsUptoCard : Claim7 := { stood := { row := statefileReadsUptoRow, standIns := [], harness := (true, "f48766695068971f14089801f1e31306166559f6d2553feefb38c27940b6ca2d"), looks := true }, kinds := [], alts := [], laidByText := true, laidKinds := [.data, .data, .data, .data, .sentinel, .sentinel, .pinned], laidTests := true, laidLooks := .later }
def StatefileReadsUptoCardSaid : Prop := Claim7.holds Tryz.pinned (.plain (OpenSpec.upto statefileReadsSpec)) statefileReadsUptoCard

/-- THE SECOND FORM's CARD OF 'provisionlaw32.StatefileOnce'. -/
def statefileOnceUptoCard : Claim7 := { stood := { row := statefileOnceUptoRow, standIns := [], harness := (true, "f48766695068971f14089801f1e31306166559f6d2553feefb38c27940b6ca2d"), looks := true }, kinds := [], alts := [], laidByText := true, laidKinds := [.data, .data, .data, .data, .sentinel, .sentinel, .pinned], laidTests := true, laidLooks := .later }
def StatefileOnceUptoCardSaid : Prop := Claim7.holds Tryz.pinned (.plain (OpenSpec.upto statefileOnceSpec)) statefileOnceUptoCard

/-- THE SECOND FORM's CARD OF 'provisionlaw32.StatefileBack'. -/
def statefileBackUptoCard : Claim7 := { stood := { row := statefileBackUptoRow, standIns := [], harness := (true, "f48766695068971f14089801f1e31306166559f6d2553feefb38c27940b6ca2d"), looks := true }, kinds := [], alts := [], laidByText := true, laidKinds := [.data, .data, .data, .data, .sentinel, .sentinel, .pinned], laidTests := true, laidLooks := .later }
def StatefileBackUptoCardSaid : Prop := Claim7.holds Tryz.pinned (.plain (OpenSpec.upto statefileBackSpec)) statefileBackUptoCard

/-- THE SECOND FORM's CARD OF 'provisionlaw34.StoreKeeps'. -/
def storeKeepsUptoCard : Claim7 := { stood := { row := storeKeepsUptoRow, standIns := [], harness := (true, "f48766695068971f14089801f1e31306166559f6d2553feefb38c27940b6ca2d"), looks := true }, kinds := [], alts := [], laidByText := true, laidKinds := [.data, .data, .data, .data, .sentinel, .sentinel, .pinned], laidTests := true, laidLooks := .later }
def StoreKeepsUptoCardSaid : Prop := Claim7.holds Tryz.pinned (.plain (OpenSpec.upto storeKeepsSpec)) storeKeepsUptoCard

/-- THE SECOND FORM's CARD OF 'provisionlaw34.StorePlays'. -/
def storePlaysUptoCard : Claim7 := { stood := { row := storePlaysUptoRow, standIns := [], harness := (true, "f48766695068971f14089801f1e31306166559f6d2553feefb38c27940b6ca2d"), looks := true }, kinds := [], alts := [], laidByText := true, laidKinds := [.data, .data, .data, .data, .sentinel, .sentinel, .pinned], laidTests := true, laidLooks := .later }
def StorePlaysUptoCardSaid : Prop := Claim7.holds Tryz.pinned (.plain (OpenSpec.upto storePlaysSpec)) storePlaysUptoCard

/-- THE SECOND FORM's CARD OF 'provisionlaw34.StoreNobody'. -/
def storeNobodyUptoCard : Claim7 := { stood := { row := storeNobodyUptoRow, standIns := [], harness := (true, "f48766695068971f14089801f1e31306166559f6d2553feefb38c27940b6ca2d"), looks := true }, kinds := [], alts := [], laidByText := true, laidKinds := [.data, .data, .data, .data, .sentinel, .sentinel, .pinned], laidTests := true, laidLooks := .later }
def StoreNobodyUptoCardSaid : Prop := Claim7.holds Tryz.pinned (.plain (OpenSpec.upto storeNobodySpec)) storeNobodyUptoCard

/-- THE SECOND FORM's CARD OF 'provisionlaw34.StoreVersions'. -/
def storeVersionsUptoCard : Claim7 := { stood := { row := storeVersionsUptoRow, standIns := [], harness := (true, "f48766695068971f14089801f1e31306166559f6d2553feefb38c27940b6ca2d"), looks := true }, kinds := [], alts := [], laidByText := true, laidKinds := [.data, .data, .data, .data, .sentinel, .sentinel, .pinned], laidTests := true, laidLooks := .later }
def StoreVersionsUptoCardSaid : Prop := Claim7.holds Tryz.pinned (.plain (OpenSpec.upto storeVersionsSpec)) storeVersionsUptoCard

/-- THE SECOND FORM's CARD OF 'provisionlaw51.WorkspaceNews'. -/
def workspaceNewsUptoCard : Claim7 := { stood := { row := workspaceNewsUptoRow, standIns := [], harness := (true, "f48766695068971f14089801f1e31306166559f6d2553feefb38c27940b6ca2d"), looks := true }, kinds := [], alts := [], laidByText := true, laidKinds := [.data, .data, .data, .data, .sentinel, .sentinel, .pinned], laidTests := true, laidLooks := .later }
def WorkspaceNewsUptoCardSaid : Prop := Claim7.holds Tryz.pinned (.plain (OpenSpec.upto workspaceNewsSpec)) workspaceNewsUptoCard

/-- THE SECOND FORM's CARD OF 'provisionlaw51.WorkspaceNil'. -/
def workspaceNilUptoCard : Claim7 := { stood := { row := workspaceNilUptoRow, standIns := [], harness := (true, "f48766695068971f14089801f1e31306166559f6d2553feefb38c27940b6ca2d"), looks := true }, kinds := [], alts := [], laidByText := true, laidKinds := [.data, .data, .data, .data, .sentinel, .sentinel, .pinned], laidTests := true, laidLooks := .later }
def WorkspaceNilUptoCardSaid : Prop := Claim7.holds Tryz.pinned (.plain (OpenSpec.upto workspaceNilSpec)) workspaceNilUptoCard
end Rows
end Go.Proofs.YtkhhnkceiibmfaaGreatDoor
