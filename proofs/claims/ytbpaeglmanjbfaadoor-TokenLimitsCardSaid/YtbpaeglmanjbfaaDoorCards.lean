/-
  DERIVED. GIVEN WITH THE SEED: THE CARDS: each row of YtbpaeglmanjbfaaDoorRows.lean that lists a variable, with what it lists TIED to the program's text (the seventh form; the later family's looks); each row that meets fmt, with fmt's text TOLD by the authors' own Lean function (tested against real Go, not proved from fmt's source: count such statements apart). THE CARD IS WHAT COUNTS. Prove the row's statement (the work); the ties are given (YtbpaeglmanjbfaaDoorTie.lean); close each card by the builder's one call (the guide's Derived/Test/ToyasCard.lean, 'card_holds'). Laid BY PROGRAM, IN A SANDBOX (cutbox-door.mjs). By AI agents, Wed Nov 11 2026. No macro, syntax, notation, axiom, sorry.
-/
import Derived.Test.YtbpaeglmanjbfaaDoorRows
import GoSem.ClaimSeven
namespace Go.Proofs.YtbpaeglmanjbfaaDoor
namespace Rows

/-- THE TIED CARD OF 'provisionlaw13.TokenScan'. -/
def tokenScanCard : Claim7 := { stood := { row := tokenScanRow, standIns := [], harness := (true, "973ac7f449268e50105f910cbc4ef79ade0084c58bbeed6f7b1ae4b6dc356c10"), looks := false }, kinds := [], alts := [], laidByText := true, laidKinds := [.data, .pinned], laidTests := true, laidLooks := .later }
def TokenScanCardSaid : Prop := Claim7.holds Tryd.pinned (.plain (OpenSpec.ofChange tokenScanSpec)) tokenScanCard

/-- THE TIED CARD OF 'provisionlaw13.TokenChecks'. -/
def tokenChecksCard : Claim7 := { stood := { row := tokenChecksRow, standIns := [], harness := (true, "973ac7f449268e50105f910cbc4ef79ade0084c58bbeed6f7b1ae4b6dc356c10"), looks := false }, kinds := [], alts := [], laidByText := true, laidKinds := [.data, .pinned], laidTests := true, laidLooks := .later }
def TokenChecksCardSaid : Prop := Claim7.holds Tryd.pinned (.plain (OpenSpec.ofChange tokenChecksSpec)) tokenChecksCard

/-- THE TIED CARD OF 'provisionlaw13.TokenBack'. -/
def tokenBackCard : Claim7 := { stood := { row := tokenBackRow, standIns := [], harness := (true, "973ac7f449268e50105f910cbc4ef79ade0084c58bbeed6f7b1ae4b6dc356c10"), looks := false }, kinds := [], alts := [], laidByText := true, laidKinds := [.data, .pinned], laidTests := true, laidLooks := .later }
def TokenBackCardSaid : Prop := Claim7.holds Tryd.pinned (.plain (OpenSpec.ofChange tokenBackSpec)) tokenBackCard

/-- THE TIED CARD OF 'provisionlaw13.TokenShortest'. -/
def tokenShortestCard : Claim7 := { stood := { row := tokenShortestRow, standIns := [], harness := (true, "973ac7f449268e50105f910cbc4ef79ade0084c58bbeed6f7b1ae4b6dc356c10"), looks := false }, kinds := [], alts := [], laidByText := true, laidKinds := [.data, .pinned], laidTests := true, laidLooks := .later }
def TokenShortestCardSaid : Prop := Claim7.holds Tryd.pinned (.plain (OpenSpec.ofChange tokenShortestSpec)) tokenShortestCard

/-- THE TIED CARD OF 'provisionlaw13.TokenOffsets'. -/
def tokenOffsetsCard : Claim7 := { stood := { row := tokenOffsetsRow, standIns := [], harness := (true, "973ac7f449268e50105f910cbc4ef79ade0084c58bbeed6f7b1ae4b6dc356c10"), looks := false }, kinds := [], alts := [], laidByText := true, laidKinds := [.data, .pinned], laidTests := true, laidLooks := .later }
def TokenOffsetsCardSaid : Prop := Claim7.holds Tryd.pinned (.plain (OpenSpec.ofChange tokenOffsetsSpec)) tokenOffsetsCard

/-- THE TIED CARD OF 'provisionlaw13.TokenTails'. -/
def tokenTailsCard : Claim7 := { stood := { row := tokenTailsRow, standIns := [], harness := (true, "973ac7f449268e50105f910cbc4ef79ade0084c58bbeed6f7b1ae4b6dc356c10"), looks := false }, kinds := [], alts := [], laidByText := true, laidKinds := [.data, .pinned], laidTests := true, laidLooks := .later }
def TokenTailsCardSaid : Prop := Claim7.holds Tryd.pinned (.plain (OpenSpec.ofChange tokenTailsSpec)) tokenTailsCard

/-- THE TIED CARD OF 'provisionlaw13.TokenLimits'. -/
def tokenLimitsCard : Claim7 := { stood := { row := tokenLimitsRow, standIns := [], harness := (true, "973ac7f449268e50105f910cbc4ef79ade0084c58bbeed6f7b1ae4b6dc356c10"), looks := false }, kinds := [], alts := [], laidByText := true, laidKinds := [.data, .pinned], laidTests := true, laidLooks := .later }
def TokenLimitsCardSaid : Prop := Claim7.holds Tryd.pinned (.plain (OpenSpec.ofChange tokenLimitsSpec)) tokenLimitsCard

/-- THE SECOND FORM's CARD OF 'provisionlaw13.TokenScan'. -/
def tokenScanUptoCard : Claim7 := { stood := { row := tokenScanUptoRow, standIns := [], harness := (true, "973ac7f449268e50105f910cbc4ef79ade0084c58bbeed6f7b1ae4b6dc356c10"), looks := false }, kinds := [], alts := [], laidByText := true, laidKinds := [.data, .pinned], laidTests := true, laidLooks := .later }
def TokenScanUptoCardSaid : Prop := Claim7.holds Tryd.pinned (.plain (OpenSpec.upto tokenScanSpec)) tokenScanUptoCard

/-- THE SECOND FORM's CARD OF 'provisionlaw13.TokenChecks'. -/
def tokenChecksUptoCard : Claim7 := { stood := { row := tokenChecksUptoRow, standIns := [], harness := (true, "973ac7f449268e50105f910cbc4ef79ade0084c58bbeed6f7b1ae4b6dc356c10"), looks := false }, kinds := [], alts := [], laidByText := true, laidKinds := [.data, .pinned], laidTests := true, laidLooks := .later }
def TokenChecksUptoCardSaid : Prop := Claim7.holds Tryd.pinned (.plain (OpenSpec.upto tokenChecksSpec)) tokenChecksUptoCard

/-- THE SECOND FORM's CARD OF 'provisionlaw13.TokenBack'. -/
def tokenBackUptoCard : Claim7 := { stood := { row := tokenBackUptoRow, standIns := [], harness := (true, "973ac7f449268e50105f910cbc4ef79ade0084c58bbeed6f7b1ae4b6dc356c10"), looks := false }, kinds := [], alts := [], laidByText := true, laidKinds := [.data, .pinned], laidTests := true, laidLooks := .later }
def TokenBackUptoCardSaid : Prop := Claim7.holds Tryd.pinned (.plain (OpenSpec.upto tokenBackSpec)) tokenBackUptoCard

/-- THE SECOND FORM's CARD OF 'provisionlaw13.TokenShortest'. -/
def tokenShortestUptoCard : Claim7 := { stood := { row := tokenShortestUptoRow, standIns := [], harness := (true, "973ac7f449268e50105f910cbc4ef79ade0084c58bbeed6f7b1ae4b6dc356c10"), looks := false }, kinds := [], alts := [], laidByText := true, laidKinds := [.data, .pinned], laidTests := true, laidLooks := .later }
def TokenShortestUptoCardSaid : Prop := Claim7.holds Tryd.pinned (.plain (OpenSpec.upto tokenShortestSpec)) tokenShortestUptoCard

/-- THE SECOND FORM's CARD OF 'provisionlaw13.TokenOffsets'. -/
def tokenOffsetsUptoCard : Claim7 := { stood := { row := tokenOffsetsUptoRow, standIns := [], harness := (true, "973ac7f449268e50105f910cbc4ef79ade0084c58bbeed6f7b1ae4b6dc356c10"), looks := false }, kinds := [], alts := [], laidByText := true, laidKinds := [.data, .pinned], laidTests := true, laidLooks := .later }
def TokenOffsetsUptoCardSaid : Prop := Claim7.holds Tryd.pinned (.plain (OpenSpec.upto tokenOffsetsSpec)) tokenOffsetsUptoCard

/-- THE SECOND FORM's CARD OF 'provisionlaw13.TokenTails'. -/
def tokenTailsUptoCard : Claim7 := { stood := { row := tokenTailsUptoRow, standIns := [], harness := (true, "973ac7f449268e50105f910cbc4ef79ade0084c58bbeed6f7b1ae4b6dc356c10"), looks := false }, kinds := [], alts := [], laidByText := true, laidKinds := [.data, .pinned], laidTests := true, laidLooks := .later }
def TokenTailsUptoCardSaid : Prop := Claim7.holds Tryd.pinned (.plain (OpenSpec.upto tokenTailsSpec)) tokenTailsUptoCard

/-- THE SECOND FORM's CARD OF 'provisionlaw13.TokenLimits'. -/
def tokenLimitsUptoCard : Claim7 := { stood := { row := tokenLimitsUptoRow, standIns := [], harness := (true, "973ac7f449268e50105f910cbc4ef79ade0084c58bbeed6f7b1ae4b6dc356c10"), looks := false }, kinds := [], alts := [], laidByText := true, laidKinds := [.data, .pinned], laidTests := true, laidLooks := .later }
def TokenLimitsUptoCardSaid : Prop := Claim7.holds Tryd.pinned (.plain (OpenSpec.upto tokenLimitsSpec)) tokenLimitsUptoCard
end Rows
end Go.Proofs.YtbpaeglmanjbfaaDoor
