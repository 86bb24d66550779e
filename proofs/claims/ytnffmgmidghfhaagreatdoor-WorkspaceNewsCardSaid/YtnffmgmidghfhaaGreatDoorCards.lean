/-
  DERIVED. GIVEN WITH THE SEED: THE CARDS: each row of YtnffmgmidghfhaaGreatDoorRows.lean that lists a variable, with what it lists TIED to the program's text (the seventh form; the later family's looks); each row that meets fmt, with fmt's text TOLD by the authors' own Lean function (tested against real Go, not proved from fmt's source: count such statements apart). THE CARD IS WHAT COUNTS. Prove the row's statement (the work); the ties are given (YtnffmgmidghfhaaGreatDoorTie.lean); close each card by the builder's one call (the guide's Derived/Test/ToyasCard.lean, 'card_holds'). Laid BY PROGRAM, IN A SANDBOX (cutbox-door.mjs). By AI agents, Wed Nov 11 2026. No macro, syntax, notation, axiom, sorry.
-/
import Derived.Test.YtnffmgmidghfhaaGreatDoorRows
import GoSem.ClaimSeven
namespace Go.Proofs.YtnffmgmidghfhaaGreatDoor
namespace Rows

/-- THE TIED CARD OF 'provisionlaw51.WorkspaceNews'. -/
def workspaceNewsCard : Claim7 := { stood := { row := workspaceNewsRow, standIns := [], harness := (true, "2636d8becbfb7416347ed6d4e65a4553e9ffcb8656aefa93580497563f417888"), looks := true }, kinds := [], alts := [], laidByText := true, laidKinds := [.data, .data, .data, .data, .sentinel, .sentinel, .pinned], laidTests := true, laidLooks := .later }
def WorkspaceNewsCardSaid : Prop := Claim7.holds Tryz.pinned (.plain (OpenSpec.ofChange workspaceNewsSpec)) workspaceNewsCard

/-- THE TIED CARD OF 'provisionlaw51.WorkspaceNil'. -/
def workspaceNilCard : Claim7 := { stood := { row := workspaceNilRow, standIns := [], harness := (true, "2636d8becbfb7416347ed6d4e65a4553e9ffcb8656aefa93580497563f417888"), looks := true }, kinds := [], alts := [], laidByText := true, laidKinds := [.data, .data, .data, .data, .sentinel, .sentinel, .pinned], laidTests := true, laidLooks := .later }
def WorkspaceNilCardSaid : Prop := Claim7.holds Tryz.pinned (.plain (OpenSpec.ofChange workspaceNilSpec)) workspaceNilCard

/-- THE SECOND FORM's CARD OF 'provisionlaw51.WorkspaceNews'. -/
def workspaceNewsUptoCard : Claim7 := { stood := { row := workspaceNewsUptoRow, standIns := [], harness := (true, "2636d8becbfb7416347ed6d4e65a4553e9ffcb8656aefa93580497563f417888"), looks := true }, kinds := [], alts := [], laidByText := true, laidKinds := [.data, .data, .data, .data, .sentinel, .sentinel, .pinned], laidTests := true, laidLooks := .later }
def WorkspaceNewsUptoCardSaid : Prop := Claim7.holds Tryz.pinned (.plain (OpenSpec.upto workspaceNewsSpec)) workspaceNewsUptoCard

/-- THE SECOND FORM's CARD OF 'provisionlaw51.WorkspaceNil'. -/
def workspaceNilUptoCard : Claim7 := { stood := { row := workspaceNilUptoRow, standIns := [], harness := (true, "2636d8becbfb7416347ed6d4e65a4553e9ffcb8656aefa93580497563f417888"), looks := true }, kinds := [], alts := [], laidByText := true, laidKinds := [.data, .data, .data, .data, .sentinel, .sentinel, .pinned], laidTests := true, laidLooks := .later }
def WorkspaceNilUptoCardSaid : Prop := Claim7.holds Tryz.pinned (.plain (OpenSpec.upto workspaceNilSpec)) workspaceNilUptoCard
end Rows
end Go.Proofs.YtnffmgmidghfhaaGreatDoor
