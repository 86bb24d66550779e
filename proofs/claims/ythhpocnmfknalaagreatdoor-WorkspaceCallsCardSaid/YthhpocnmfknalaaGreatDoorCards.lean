/-
  DERIVED. GIVEN WITH THE SEED: THE CARDS: each row of YthhpocnmfknalaaGreatDoorRows.lean that lists a variable, with what it lists TIED to the program's text (the seventh form; the later family's looks); each row that meets fmt, with fmt's text TOLD by the authors' own Lean function (tested against real Go, not proved from fmt's source: count such statements apart). THE CARD IS WHAT COUNTS. Prove the row's statement (the work); the ties are given (YthhpocnmfknalaaGreatDoorTie.lean); close each card by the builder's one call (the guide's Derived/Test/ToyasCard.lean, 'card_holds'). Laid BY PROGRAM, IN A SANDBOX (cutbox-door.mjs). By AI agents, Wed Nov 11 2026. No macro, syntax, notation, axiom, sorry.
-/
import Derived.Test.YthhpocnmfknalaaGreatDoorRows
import GoSem.ClaimSeven
namespace Go.Proofs.YthhpocnmfknalaaGreatDoor
namespace Rows

/-- THE TIED CARD OF 'provisionlaw51.WorkspaceAgain'. -/
def workspaceAgainCard : Claim7 := { stood := { row := workspaceAgainRow, standIns := [], harness := (true, "ea67efd77e8c56409990a8e0841c9ac20d485a6843500f46ff3726ac23dd304c"), looks := true }, kinds := [], alts := [], laidByText := true, laidKinds := [.data, .data, .data, .data, .sentinel, .sentinel, .pinned], laidTests := true, laidLooks := .later }
def WorkspaceAgainCardSaid : Prop := Claim7.holds Tryz.pinned (.plain (OpenSpec.ofChange workspaceAgainSpec)) workspaceAgainCard

/-- THE TIED CARD OF 'provisionlaw51.WorkspaceApart'. -/
def workspaceApartCard : Claim7 := { stood := { row := workspaceApartRow, standIns := [], harness := (true, "ea67efd77e8c56409990a8e0841c9ac20d485a6843500f46ff3726ac23dd304c"), looks := true }, kinds := [], alts := [], laidByText := true, laidKinds := [.data, .data, .data, .data, .sentinel, .sentinel, .pinned], laidTests := true, laidLooks := .later }
def WorkspaceApartCardSaid : Prop := Claim7.holds Tryz.pinned (.plain (OpenSpec.ofChange workspaceApartSpec)) workspaceApartCard

/-- THE TIED CARD OF 'provisionlaw51.WorkspaceOutputs'. -/
def workspaceOutputsCard : Claim7 := { stood := { row := workspaceOutputsRow, standIns := [], harness := (true, "ea67efd77e8c56409990a8e0841c9ac20d485a6843500f46ff3726ac23dd304c"), looks := true }, kinds := [], alts := [], laidByText := true, laidKinds := [.data, .data, .data, .data, .sentinel, .sentinel, .pinned], laidTests := true, laidLooks := .later }
def WorkspaceOutputsCardSaid : Prop := Claim7.holds Tryz.pinned (.plain (OpenSpec.ofChange workspaceOutputsSpec)) workspaceOutputsCard

/-- THE TIED CARD OF 'provisionlaw51.WorkspaceCalls'. -/
def workspaceCallsCard : Claim7 := { stood := { row := workspaceCallsRow, standIns := [], harness := (true, "ea67efd77e8c56409990a8e0841c9ac20d485a6843500f46ff3726ac23dd304c"), looks := true }, kinds := [], alts := [], laidByText := true, laidKinds := [.data, .data, .data, .data, .sentinel, .sentinel, .pinned], laidTests := true, laidLooks := .later }
def WorkspaceCallsCardSaid : Prop := Claim7.holds Tryz.pinned (.plain (OpenSpec.ofChange workspaceCallsSpec)) workspaceCallsCard

/-- THE SECOND FORM's CARD OF 'provisionlaw51.WorkspaceAgain'. -/
def workspaceAgainUptoCard : Claim7 := { stood := { row := workspaceAgainUptoRow, standIns := [], harness := (true, "ea67efd77e8c56409990a8e0841c9ac20d485a6843500f46ff3726ac23dd304c"), looks := true }, kinds := [], alts := [], laidByText := true, laidKinds := [.data, .data, .data, .data, .sentinel, .sentinel, .pinned], laidTests := true, laidLooks := .later }
def WorkspaceAgainUptoCardSaid : Prop := Claim7.holds Tryz.pinned (.plain (OpenSpec.upto workspaceAgainSpec)) workspaceAgainUptoCard

/-- THE SECOND FORM's CARD OF 'provisionlaw51.WorkspaceApart'. -/
def workspaceApartUptoCard : Claim7 := { stood := { row := workspaceApartUptoRow, standIns := [], harness := (true, "ea67efd77e8c56409990a8e0841c9ac20d485a6843500f46ff3726ac23dd304c"), looks := true }, kinds := [], alts := [], laidByText := true, laidKinds := [.data, .data, .data, .data, .sentinel, .sentinel, .pinned], laidTests := true, laidLooks := .later }
def WorkspaceApartUptoCardSaid : Prop := Claim7.holds Tryz.pinned (.plain (OpenSpec.upto workspaceApartSpec)) workspaceApartUptoCard

/-- THE SECOND FORM's CARD OF 'provisionlaw51.WorkspaceOutputs'. -/
def workspaceOutputsUptoCard : Claim7 := { stood := { row := workspaceOutputsUptoRow, standIns := [], harness := (true, "ea67efd77e8c56409990a8e0841c9ac20d485a6843500f46ff3726ac23dd304c"), looks := true }, kinds := [], alts := [], laidByText := true, laidKinds := [.data, .data, .data, .data, .sentinel, .sentinel, .pinned], laidTests := true, laidLooks := .later }
def WorkspaceOutputsUptoCardSaid : Prop := Claim7.holds Tryz.pinned (.plain (OpenSpec.upto workspaceOutputsSpec)) workspaceOutputsUptoCard

/-- THE SECOND FORM's CARD OF 'provisionlaw51.WorkspaceCalls'. -/
def workspaceCallsUptoCard : Claim7 := { stood := { row := workspaceCallsUptoRow, standIns := [], harness := (true, "ea67efd77e8c56409990a8e0841c9ac20d485a6843500f46ff3726ac23dd304c"), looks := true }, kinds := [], alts := [], laidByText := true, laidKinds := [.data, .data, .data, .data, .sentinel, .sentinel, .pinned], laidTests := true, laidLooks := .later }
def WorkspaceCallsUptoCardSaid : Prop := Claim7.holds Tryz.pinned (.plain (OpenSpec.upto workspaceCallsSpec)) workspaceCallsUptoCard
end Rows
end Go.Proofs.YthhpocnmfknalaaGreatDoor
