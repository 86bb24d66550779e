/-
  DERIVED. GIVEN WITH THE SEED: THE CARDS: each row of YtdgcbckcameggaaGreatDoorRows.lean that lists a variable, with what it lists TIED to the program's text (the seventh form; the later family's looks); each row that meets fmt, with fmt's text TOLD by the authors' own Lean function (tested against real Go, not proved from fmt's source: count such statements apart). THE CARD IS WHAT COUNTS. Prove the row's statement (the work); the ties are given (YtdgcbckcameggaaGreatDoorTie.lean); close each card by the builder's one call (the guide's Derived/Test/ToyasCard.lean, 'card_holds'). Laid BY PROGRAM, IN A SANDBOX (cutbox-door.mjs). By AI agents, Wed Nov 11 2026. No macro, syntax, notation, axiom, sorry.
-/
import Derived.Test.YtdgcbckcameggaaGreatDoorRows
import GoSem.ClaimSeven
namespace Go.Proofs.YtdgcbckcameggaaGreatDoor
namespace Rows

/-- THE TIED CARD OF 'provisionlaw32.StatefileReads'. -/
def statefileReadsCard : Claim7 := { stood := { row := statefileReadsRow, standIns := [], harness := (true, "3276be45100b68708ad24fe087c4d1be0b6a8519044b8eafce984533b6bfa923"), looks := true }, kinds := [], alts := [], laidByText := true, laidKinds := [.data, .data, .data, .data, .sentinel, .sentinel, .pinned], laidTests := true, laidLooks := .later }
def StatefileReadsCardSaid : Prop := Claim7.holds Tryz.pinned (.plain (OpenSpec.ofChange statefileReadsSpec)) statefileReadsCard

/-- THE SECOND FORM's CARD OF 'provisionlaw32.StatefileReads'. -/
def statefileReadsUptoCard : Claim7 := { stood := { row := statefileReadsUptoRow, standIns := [], harness := (true, "3276be45100b68708ad24fe087c4d1be0b6a8519044b8eafce984533b6bfa923"), looks := true }, kinds := [], alts := [], laidByText := true, laidKinds := [.data, .data, .data, .data, .sentinel, .sentinel, .pinned], laidTests := true, laidLooks := .later }
def StatefileReadsUptoCardSaid : Prop := Claim7.holds Tryz.pinned (.plain (OpenSpec.upto statefileReadsSpec)) statefileReadsUptoCard
end Rows
end Go.Proofs.YtdgcbckcameggaaGreatDoor
