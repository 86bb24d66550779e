/-
  DERIVED. GIVEN WITH THE SEED: THE CARDS: each row of YtiaohbikaofbdaaDoorRows.lean that lists a variable, with what it lists TIED to the program's text (the seventh form; the later family's looks); each row that meets fmt, with fmt's text TOLD by the authors' own Lean function (tested against real Go, not proved from fmt's source: count such statements apart). THE CARD IS WHAT COUNTS. Prove the row's statement (the work); the ties are given (YtiaohbikaofbdaaDoorTie.lean); close each card by the builder's one call (the guide's Derived/Test/ToyasCard.lean, 'card_holds'). Laid BY PROGRAM, IN A SANDBOX (cutbox-door.mjs). By AI agents, Wed Nov 11 2026. No macro, syntax, notation, axiom, sorry.
-/
import Derived.Test.YtiaohbikaofbdaaDoorRows
import GoSem.ClaimSeven
namespace Go.Proofs.YtiaohbikaofbdaaDoor
namespace Rows

/-- THE TIED CARD OF 'provisionlaw02.StrlitWords'. -/
def strlitWordsCard : Claim7 := { stood := { row := strlitWordsRow, standIns := [], harness := (true, "1ab7cdca16d578245e1c64d6ff8d747e3bbab82bd88d1226a93ecd04dad33c8a"), looks := false }, kinds := [], alts := [], laidByText := true, laidKinds := [.data, .data, .data, .data, .pinned], laidTests := true, laidLooks := .later }
def StrlitWordsCardSaid : Prop := Claim7.holds Tryd.pinned (.plain (OpenSpec.ofChange strlitWordsSpec)) strlitWordsCard

/-- THE TIED CARD OF 'provisionlaw02.StrlitReads'. -/
def strlitReadsCard : Claim7 := { stood := { row := strlitReadsRow, standIns := [], harness := (true, "1ab7cdca16d578245e1c64d6ff8d747e3bbab82bd88d1226a93ecd04dad33c8a"), looks := false }, kinds := [], alts := [], laidByText := true, laidKinds := [.data, .data, .data, .data, .pinned], laidTests := true, laidLooks := .later }
def StrlitReadsCardSaid : Prop := Claim7.holds Tryd.pinned (.plain (OpenSpec.ofChange strlitReadsSpec)) strlitReadsCard

/-- THE TIED CARD OF 'provisionlaw02.StrlitBack'. -/
def strlitBackCard : Claim7 := { stood := { row := strlitBackRow, standIns := [], harness := (true, "1ab7cdca16d578245e1c64d6ff8d747e3bbab82bd88d1226a93ecd04dad33c8a"), looks := false }, kinds := [], alts := [], laidByText := true, laidKinds := [.data, .data, .data, .data, .pinned], laidTests := true, laidLooks := .later }
def StrlitBackCardSaid : Prop := Claim7.holds Tryd.pinned (.plain (OpenSpec.ofChange strlitBackSpec)) strlitBackCard

/-- THE TIED CARD OF 'provisionlaw02.StrlitPrints'. -/
def strlitPrintsCard : Claim7 := { stood := { row := strlitPrintsRow, standIns := [], harness := (true, "1ab7cdca16d578245e1c64d6ff8d747e3bbab82bd88d1226a93ecd04dad33c8a"), looks := false }, kinds := [], alts := [], laidByText := true, laidKinds := [.data, .data, .data, .data, .pinned], laidTests := true, laidLooks := .later }
def StrlitPrintsCardSaid : Prop := Claim7.holds Tryd.pinned (.plain (OpenSpec.ofChange strlitPrintsSpec)) strlitPrintsCard

/-- THE TIED CARD OF 'provisionlaw02.StrlitEscapes'. -/
def strlitEscapesCard : Claim7 := { stood := { row := strlitEscapesRow, standIns := [], harness := (true, "1ab7cdca16d578245e1c64d6ff8d747e3bbab82bd88d1226a93ecd04dad33c8a"), looks := false }, kinds := [], alts := [], laidByText := true, laidKinds := [.data, .data, .data, .data, .pinned], laidTests := true, laidLooks := .later }
def StrlitEscapesCardSaid : Prop := Claim7.holds Tryd.pinned (.plain (OpenSpec.ofChange strlitEscapesSpec)) strlitEscapesCard

/-- THE TIED CARD OF 'provisionlaw02.StrlitJoins'. -/
def strlitJoinsCard : Claim7 := { stood := { row := strlitJoinsRow, standIns := [], harness := (true, "1ab7cdca16d578245e1c64d6ff8d747e3bbab82bd88d1226a93ecd04dad33c8a"), looks := false }, kinds := [], alts := [], laidByText := true, laidKinds := [.data, .data, .data, .data, .pinned], laidTests := true, laidLooks := .later }
def StrlitJoinsCardSaid : Prop := Claim7.holds Tryd.pinned (.plain (OpenSpec.ofChange strlitJoinsSpec)) strlitJoinsCard

/-- THE SECOND FORM's CARD OF 'provisionlaw02.StrlitWords'. -/
def strlitWordsUptoCard : Claim7 := { stood := { row := strlitWordsUptoRow, standIns := [], harness := (true, "1ab7cdca16d578245e1c64d6ff8d747e3bbab82bd88d1226a93ecd04dad33c8a"), looks := false }, kinds := [], alts := [], laidByText := true, laidKinds := [.data, .data, .data, .data, .pinned], laidTests := true, laidLooks := .later }
def StrlitWordsUptoCardSaid : Prop := Claim7.holds Tryd.pinned (.plain (OpenSpec.upto strlitWordsSpec)) strlitWordsUptoCard

/-- THE SECOND FORM's CARD OF 'provisionlaw02.StrlitReads'. -/
def strlitReadsUptoCard : Claim7 := { stood := { row := strlitReadsUptoRow, standIns := [], harness := (true, "1ab7cdca16d578245e1c64d6ff8d747e3bbab82bd88d1226a93ecd04dad33c8a"), looks := false }, kinds := [], alts := [], laidByText := true, laidKinds := [.data, .data, .data, .data, .pinned], laidTests := true, laidLooks := .later }
def StrlitReadsUptoCardSaid : Prop := Claim7.holds Tryd.pinned (.plain (OpenSpec.upto strlitReadsSpec)) strlitReadsUptoCard

/-- THE SECOND FORM's CARD OF 'provisionlaw02.StrlitBack'. -/
def strlitBackUptoCard : Claim7 := { stood := { row := strlitBackUptoRow, standIns := [], harness := (true, "1ab7cdca16d578245e1c64d6ff8d747e3bbab82bd88d1226a93ecd04dad33c8a"), looks := false }, kinds := [], alts := [], laidByText := true, laidKinds := [.data, .data, .data, .data, .pinned], laidTests := true, laidLooks := .later }
def StrlitBackUptoCardSaid : Prop := Claim7.holds Tryd.pinned (.plain (OpenSpec.upto strlitBackSpec)) strlitBackUptoCard

/-- THE SECOND FORM's CARD OF 'provisionlaw02.StrlitPrints'. -/
def strlitPrintsUptoCard : Claim7 := { stood := { row := strlitPrintsUptoRow, standIns := [], harness := (true, "1ab7cdca16d578245e1c64d6ff8d747e3bbab82bd88d1226a93ecd04dad33c8a"), looks := false }, kinds := [], alts := [], laidByText := true, laidKinds := [.data, .data, .data, .data, .pinned], laidTests := true, laidLooks := .later }
def StrlitPrintsUptoCardSaid : Prop := Claim7.holds Tryd.pinned (.plain (OpenSpec.upto strlitPrintsSpec)) strlitPrintsUptoCard

/-- THE SECOND FORM's CARD OF 'provisionlaw02.StrlitEscapes'. -/
def strlitEscapesUptoCard : Claim7 := { stood := { row := strlitEscapesUptoRow, standIns := [], harness := (true, "1ab7cdca16d578245e1c64d6ff8d747e3bbab82bd88d1226a93ecd04dad33c8a"), looks := false }, kinds := [], alts := [], laidByText := true, laidKinds := [.data, .data, .data, .data, .pinned], laidTests := true, laidLooks := .later }
def StrlitEscapesUptoCardSaid : Prop := Claim7.holds Tryd.pinned (.plain (OpenSpec.upto strlitEscapesSpec)) strlitEscapesUptoCard

/-- THE SECOND FORM's CARD OF 'provisionlaw02.StrlitJoins'. -/
def strlitJoinsUptoCard : Claim7 := { stood := { row := strlitJoinsUptoRow, standIns := [], harness := (true, "1ab7cdca16d578245e1c64d6ff8d747e3bbab82bd88d1226a93ecd04dad33c8a"), looks := false }, kinds := [], alts := [], laidByText := true, laidKinds := [.data, .data, .data, .data, .pinned], laidTests := true, laidLooks := .later }
def StrlitJoinsUptoCardSaid : Prop := Claim7.holds Tryd.pinned (.plain (OpenSpec.upto strlitJoinsSpec)) strlitJoinsUptoCard
end Rows
end Go.Proofs.YtiaohbikaofbdaaDoor
