/-
  DERIVED. GIVEN WITH THE SEED: THE CARDS: each row of YtdikbljgmpbpjaaGreatDoorRows.lean that lists a variable, with what it lists TIED to the program's text (the seventh form; the later family's looks); each row that meets fmt, with fmt's text TOLD by the authors' own Lean function (tested against real Go, not proved from fmt's source: count such statements apart). THE CARD IS WHAT COUNTS. Prove the row's statement (the work); the ties are given (YtdikbljgmpbpjaaGreatDoorTie.lean); close each card by the builder's one call (the guide's Derived/Test/ToyasCard.lean, 'card_holds'). Laid BY PROGRAM, IN A SANDBOX (cutbox-door.mjs). By AI agents, Wed Nov 11 2026. No macro, syntax, notation, axiom, sorry.
-/
import Derived.Test.YtdikbljgmpbpjaaGreatDoorRows
import GoSem.ClaimSeven
namespace Go.Proofs.YtdikbljgmpbpjaaGreatDoor
namespace Rows

/-- THE TIED CARD OF 'provisionlaw32.StatefileWrites'. -/
def statefileWritesCard : Claim7 := { stood := { row := statefileWritesRow, standIns := [], harness := (true, "b204ead797942f4f47fc6ba1d0592015a5084ddf979755557f4d18b0186ae806"), looks := true }, kinds := [], alts := [], laidByText := true, laidKinds := [.data, .data, .data, .data, .sentinel, .sentinel, .pinned], laidTests := true, laidLooks := .later }
def StatefileWritesCardSaid : Prop := Claim7.holds Tryz.pinned (.plain (OpenSpec.ofChange statefileWritesSpec)) statefileWritesCard

/-- THE TIED CARD OF 'provisionlaw32.StatefileReads'. -/
def statefileReadsCard : Claim7 := { stood := { row := statefileReadsRow, standIns := [], harness := (true, "b204ead797942f4f47fc6ba1d0592015a5084ddf979755557f4d18b0186ae806"), looks := true }, kinds := [], alts := [], laidByText := true, laidKinds := [.data, .data, .data, .data, .sentinel, .sentinel, .pinned], laidTests := true, laidLooks := .later }
def StatefileReadsCardSaid : Prop := Claim7.holds Tryz.pinned (.plain (OpenSpec.ofChange statefileReadsSpec)) statefileReadsCard

/-- THE TIED CARD OF 'provisionlaw32.StatefileOnce'. -/
def statefileOnceCard : Claim7 := { stood := { row := statefileOnceRow, standIns := [], harness := (true, "b204ead797942f4f47fc6ba1d0592015a5084ddf979755557f4d18b0186ae806"), looks := true }, kinds := [], alts := [], laidByText := true, laidKinds := [.data, .data, .data, .data, .sentinel, .sentinel, .pinned], laidTests := true, laidLooks := .later }
def StatefileOnceCardSaid : Prop := Claim7.holds Tryz.pinned (.plain (OpenSpec.ofChange statefileOnceSpec)) statefileOnceCard

/-- THE TIED CARD OF 'provisionlaw32.StatefileValues'. -/
def statefileValuesCard : Claim7 := { stood := { row := statefileValuesRow, standIns := [], harness := (true, "b204ead797942f4f47fc6ba1d0592015a5084ddf979755557f4d18b0186ae806"), looks := true }, kinds := [], alts := [], laidByText := true, laidKinds := [.data, .data, .data, .data, .sentinel, .sentinel, .pinned], laidTests := true, laidLooks := .later }
def StatefileValuesCardSaid : Prop := Claim7.holds Tryz.pinned (.plain (OpenSpec.ofChange statefileValuesSpec)) statefileValuesCard

/-- THE TIED CARD OF 'provisionlaw32.StatefileValueBack'. -/
def statefileValueBackCard : Claim7 := { stood := { row := statefileValueBackRow, standIns := [], harness := (true, "b204ead797942f4f47fc6ba1d0592015a5084ddf979755557f4d18b0186ae806"), looks := true }, kinds := [], alts := [], laidByText := true, laidKinds := [.data, .data, .data, .data, .sentinel, .sentinel, .pinned], laidTests := true, laidLooks := .later }
def StatefileValueBackCardSaid : Prop := Claim7.holds Tryz.pinned (.plain (OpenSpec.ofChange statefileValueBackSpec)) statefileValueBackCard

/-- THE TIED CARD OF 'provisionlaw32.StatefileBack'. -/
def statefileBackCard : Claim7 := { stood := { row := statefileBackRow, standIns := [], harness := (true, "b204ead797942f4f47fc6ba1d0592015a5084ddf979755557f4d18b0186ae806"), looks := true }, kinds := [], alts := [], laidByText := true, laidKinds := [.data, .data, .data, .data, .sentinel, .sentinel, .pinned], laidTests := true, laidLooks := .later }
def StatefileBackCardSaid : Prop := Claim7.holds Tryz.pinned (.plain (OpenSpec.ofChange statefileBackSpec)) statefileBackCard

/-- THE SECOND FORM's CARD OF 'provisionlaw32.StatefileWrites'. -/
def statefileWritesUptoCard : Claim7 := { stood := { row := statefileWritesUptoRow, standIns := [], harness := (true, "b204ead797942f4f47fc6ba1d0592015a5084ddf979755557f4d18b0186ae806"), looks := true }, kinds := [], alts := [], laidByText := true, laidKinds := [.data, .data, .data, .data, .sentinel, .sentinel, .pinned], laidTests := true, laidLooks := .later }
def StatefileWritesUptoCardSaid : Prop := Claim7.holds Tryz.pinned (.plain (OpenSpec.upto statefileWritesSpec)) statefileWritesUptoCard

/-- THE SECOND FORM's CARD OF 'provisionlaw32.StatefileReads'. -/
def statefileReadsUptoCard : Claim7 := { stood := { row := statefileReadsUptoRow, standIns := [], harness := (true, "b204ead797942f4f47fc6ba1d0592015a5084ddf979755557f4d18b0186ae806"), looks := true }, kinds := [], alts := [], laidByText := true, laidKinds := [.data, .data, .data, .data, .sentinel, .sentinel, .pinned], laidTests := true, laidLooks := .later }
def StatefileReadsUptoCardSaid : Prop := Claim7.holds Tryz.pinned (.plain (OpenSpec.upto statefileReadsSpec)) statefileReadsUptoCard

/-- THE SECOND FORM's CARD OF 'provisionlaw32.StatefileOnce'. -/
def statefileOnceUptoCard : Claim7 := { stood := { row := statefileOnceUptoRow, standIns := [], harness := (true, "b204ead797942f4f47fc6ba1d0592015a5084ddf979755557f4d18b0186ae806"), looks := true }, kinds := [], alts := [], laidByText := true, laidKinds := [.data, .data, .data, .data, .sentinel, .sentinel, .pinned], laidTests := true, laidLooks := .later }
def StatefileOnceUptoCardSaid : Prop := Claim7.holds Tryz.pinned (.plain (OpenSpec.upto statefileOnceSpec)) statefileOnceUptoCard

/-- THE SECOND FORM's CARD OF 'provisionlaw32.StatefileValues'. -/
def statefileValuesUptoCard : Claim7 := { stood := { row := statefileValuesUptoRow, standIns := [], harness := (true, "b204ead797942f4f47fc6ba1d0592015a5084ddf979755557f4d18b0186ae806"), looks := true }, kinds := [], alts := [], laidByText := true, laidKinds := [.data, .data, .data, .data, .sentinel, .sentinel, .pinned], laidTests := true, laidLooks := .later }
def StatefileValuesUptoCardSaid : Prop := Claim7.holds Tryz.pinned (.plain (OpenSpec.upto statefileValuesSpec)) statefileValuesUptoCard

/-- THE SECOND FORM's CARD OF 'provisionlaw32.StatefileValueBack'. -/
def statefileValueBackUptoCard : Claim7 := { stood := { row := statefileValueBackUptoRow, standIns := [], harness := (true, "b204ead797942f4f47fc6ba1d0592015a5084ddf979755557f4d18b0186ae806"), looks := true }, kinds := [], alts := [], laidByText := true, laidKinds := [.data, .data, .data, .data, .sentinel, .sentinel, .pinned], laidTests := true, laidLooks := .later }
def StatefileValueBackUptoCardSaid : Prop := Claim7.holds Tryz.pinned (.plain (OpenSpec.upto statefileValueBackSpec)) statefileValueBackUptoCard

/-- THE SECOND FORM's CARD OF 'provisionlaw32.StatefileBack'. -/
def statefileBackUptoCard : Claim7 := { stood := { row := statefileBackUptoRow, standIns := [], harness := (true, "b204ead797942f4f47fc6ba1d0592015a5084ddf979755557f4d18b0186ae806"), looks := true }, kinds := [], alts := [], laidByText := true, laidKinds := [.data, .data, .data, .data, .sentinel, .sentinel, .pinned], laidTests := true, laidLooks := .later }
def StatefileBackUptoCardSaid : Prop := Claim7.holds Tryz.pinned (.plain (OpenSpec.upto statefileBackSpec)) statefileBackUptoCard
end Rows
end Go.Proofs.YtdikbljgmpbpjaaGreatDoor
