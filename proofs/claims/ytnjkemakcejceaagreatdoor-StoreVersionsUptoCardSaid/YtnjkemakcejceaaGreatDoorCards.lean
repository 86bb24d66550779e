/-
  DERIVED. GIVEN WITH THE SEED: THE CARDS: each row of YtnjkemakcejceaaGreatDoorRows.lean that lists a variable, with what it lists TIED to the program's text (the seventh form; the later family's looks); each row that meets fmt, with fmt's text TOLD by the authors' own Lean function (tested against real Go, not proved from fmt's source: count such statements apart). THE CARD IS WHAT COUNTS. Prove the row's statement (the work); the ties are given (YtnjkemakcejceaaGreatDoorTie.lean); close each card by the builder's one call (the guide's Derived/Test/ToyasCard.lean, 'card_holds'). Laid BY PROGRAM, IN A SANDBOX (cutbox-door.mjs). By AI agents, Wed Nov 11 2026. No macro, syntax, notation, axiom, sorry.
-/
import Derived.Test.YtnjkemakcejceaaGreatDoorRows
import GoSem.ClaimSeven
namespace Go.Proofs.YtnjkemakcejceaaGreatDoor
namespace Rows

/-- THE TIED CARD OF 'provisionlaw32.StatefileBack'. -/
def statefileBackCard : Claim7 := { stood := { row := statefileBackRow, standIns := [], harness := (true, "df6a6dfae81918a0035ed636e360c733130ecb5674fd8759b4b8873657046c2e"), looks := true }, kinds := [], alts := [], laidByText := true, laidKinds := [.data, .data, .data, .data, .sentinel, .sentinel, .pinned], laidTests := true, laidLooks := .later }
def StatefileBackCardSaid : Prop := Claim7.holds Tryz.pinned (.plain (OpenSpec.ofChange statefileBackSpec)) statefileBackCard

/-- THE TIED CARD OF 'provisionlaw34.StorePlays'. -/
def storePlaysCard : Claim7 := { stood := { row := storePlaysRow, standIns := [], harness := (true, "df6a6dfae81918a0035ed636e360c733130ecb5674fd8759b4b8873657046c2e"), looks := true }, kinds := [], alts := [], laidByText := true, laidKinds := [.data, .data, .data, .data, .sentinel, .sentinel, .pinned], laidTests := true, laidLooks := .later }
def StorePlaysCardSaid : Prop := Claim7.holds Tryz.pinned (.plain (OpenSpec.ofChange storePlaysSpec)) storePlaysCard

/-- THE TIED CARD OF 'provisionlaw34.StoreNobody'. -/
def storeNobodyCard : Claim7 := { stood := { row := storeNobodyRow, standIns := [], harness := (true, "df6a6dfae81918a0035ed636e360c733130ecb5674fd8759b4b8873657046c2e"), looks := true }, kinds := [], alts := [], laidByText := true, laidKinds := [.data, .data, .data, .data, .sentinel, .sentinel, .pinned], laidTests := true, laidLooks := .later }
def StoreNobodyCardSaid : Prop := Claim7.holds Tryz.pinned (.plain (OpenSpec.ofChange storeNobodySpec)) storeNobodyCard

/-- THE TIED CARD OF 'provisionlaw34.StoreVersions'. -/
def storeVersionsCard : Claim7 := { stood := { row := storeVersionsRow, standIns := [], harness := (true, "df6a6dfae81918a0035ed636e360c733130ecb5674fd8759b4b8873657046c2e"), looks := true }, kinds := [], alts := [], laidByText := true, laidKinds := [.data, .data, .data, .data, .sentinel, .sentinel, .pinned], laidTests := true, laidLooks := .later }
def StoreVersionsCardSaid : Prop := Claim7.holds Tryz.pinned (.plain (OpenSpec.ofChange storeVersionsSpec)) storeVersionsCard

/-- THE SECOND FORM's CARD OF 'provisionlaw32.StatefileBack'. -/
def statefileBackUptoCard : Claim7 := { stood := { row := statefileBackUptoRow, standIns := [], harness := (true, "df6a6dfae81918a0035ed636e360c733130ecb5674fd8759b4b8873657046c2e"), looks := true }, kinds := [], alts := [], laidByText := true, laidKinds := [.data, .data, .data, .data, .sentinel, .sentinel, .pinned], laidTests := true, laidLooks := .later }
def StatefileBackUptoCardSaid : Prop := Claim7.holds Tryz.pinned (.plain (OpenSpec.upto statefileBackSpec)) statefileBackUptoCard

/-- THE SECOND FORM's CARD OF 'provisionlaw34.StorePlays'. -/
def storePlaysUptoCard : Claim7 := { stood := { row := storePlaysUptoRow, standIns := [], harness := (true, "df6a6dfae81918a0035ed636e360c733130ecb5674fd8759b4b8873657046c2e"), looks := true }, kinds := [], alts := [], laidByText := true, laidKinds := [.data, .data, .data, .data, .sentinel, .sentinel, .pinned], laidTests := true, laidLooks := .later }
def StorePlaysUptoCardSaid : Prop := Claim7.holds Tryz.pinned (.plain (OpenSpec.upto storePlaysSpec)) storePlaysUptoCard

/-- THE SECOND FORM's CARD OF 'provisionlaw34.StoreNobody'. -/
def storeNobodyUptoCard : Claim7 := { stood := { row := storeNobodyUptoRow, standIns := [], harness := (true, "df6a6dfae81918a0035ed636e360c733130ecb5674fd8759b4b8873657046c2e"), looks := true }, kinds := [], alts := [], laidByText := true, laidKinds := [.data, .data, .data, .data, .sentinel, .sentinel, .pinned], laidTests := true, laidLooks := .later }
def StoreNobodyUptoCardSaid : Prop := Claim7.holds Tryz.pinned (.plain (OpenSpec.upto storeNobodySpec)) storeNobodyUptoCard

/-- THE SECOND FORM's CARD OF 'provisionlaw34.StoreVersions'. -/
def storeVersionsUptoCard : Claim7 := { stood := { row := storeVersionsUptoRow, standIns := [], harness := (true, "df6a6dfae81918a0035ed636e360c733130ecb5674fd8759b4b8873657046c2e"), looks := true }, kinds := [], alts := [], laidByText := true, laidKinds := [.data, .data, .data, .data, .sentinel, .sentinel, .pinned], laidTests := true, laidLooks := .later }
def StoreVersionsUptoCardSaid : Prop := Claim7.holds Tryz.pinned (.plain (OpenSpec.upto storeVersionsSpec)) storeVersionsUptoCard
end Rows
end Go.Proofs.YtnjkemakcejceaaGreatDoor
