/-
  DERIVED. GIVEN WITH THE SEED: THE CARDS: each row of YtnghhnahdjjpkaaGreatDoorRows.lean that lists a variable, with what it lists TIED to the program's text (the seventh form; the later family's looks); each row that meets fmt, with fmt's text TOLD by the authors' own Lean function (tested against real Go, not proved from fmt's source: count such statements apart). THE CARD IS WHAT COUNTS. Prove the row's statement (the work); the ties are given (YtnghhnahdjjpkaaGreatDoorTie.lean); close each card by the builder's one call (the guide's Derived/Test/ToyasCard.lean, 'card_holds'). Laid BY PROGRAM, IN A SANDBOX (cutbox-door.mjs). By AI agents, Wed Nov 11 2026. No macro, syntax, notation, axiom, sorry.
-/
import Derived.Test.YtnghhnahdjjpkaaGreatDoorRows
import GoSem.ClaimSeven
namespace Go.Proofs.YtnghhnahdjjpkaaGreatDoor
namespace Rows

/-- THE TIED CARD OF 'provisionlaw50.RecoveryReplays'. -/
def recoveryReplaysCard : Claim7 := { stood := { row := recoveryReplaysRow, standIns := [], harness := (true, "c5bd25b0d98a33e5685ccb947151cd52d8dec71af306c90352ed41694d70566b"), looks := true }, kinds := [], alts := [], laidByText := true, laidKinds := [.data, .data, .data, .data, .sentinel, .sentinel, .pinned], laidTests := true, laidLooks := .later }
def RecoveryReplaysCardSaid : Prop := Claim7.holds Tryz.pinned (.plain (OpenSpec.ofChange recoveryReplaysSpec)) recoveryReplaysCard

/-- THE SECOND FORM's CARD OF 'provisionlaw50.RecoveryReplays'. -/
def recoveryReplaysUptoCard : Claim7 := { stood := { row := recoveryReplaysUptoRow, standIns := [], harness := (true, "c5bd25b0d98a33e5685ccb947151cd52d8dec71af306c90352ed41694d70566b"), looks := true }, kinds := [], alts := [], laidByText := true, laidKinds := [.data, .data, .data, .data, .sentinel, .sentinel, .pinned], laidTests := true, laidLooks := .later }
def RecoveryReplaysUptoCardSaid : Prop := Claim7.holds Tryz.pinned (.plain (OpenSpec.upto recoveryReplaysSpec)) recoveryReplaysUptoCard
end Rows
end Go.Proofs.YtnghhnahdjjpkaaGreatDoor
