/-
  DERIVED. GIVEN WITH THE SEED: THE CARDS: each row of YteklhoajalgehaaGreatDoorRows.lean that lists a variable, with what it lists TIED to the program's text (the seventh form; the later family's looks); each row that meets fmt, with fmt's text TOLD by the authors' own Lean function (tested against real Go, not proved from fmt's source: count such statements apart). THE CARD IS WHAT COUNTS. Prove the row's statement (the work); the ties are given (YteklhoajalgehaaGreatDoorTie.lean); close each card by the builder's one call (the guide's Derived/Test/ToyasCard.lean, 'card_holds'). Laid BY PROGRAM, IN A SANDBOX (cutbox-door.mjs). By AI agents, Wed Nov 11 2026. No macro, syntax, notation, axiom, sorry.
-/
import Derived.Test.YteklhoajalgehaaGreatDoorRows
import GoSem.ClaimSeven
namespace Go.Proofs.YteklhoajalgehaaGreatDoor
namespace Rows

/-- THE TIED CARD OF 'provisionlaw34.StorePlays'. -/
def storePlaysCard : Claim7 := { stood := { row := storePlaysRow, standIns := [], harness := (true, "98c3e775266fabaef0442c2de8422e73498c10053a64f7e9aa973b3206e1758d"), looks := true }, kinds := [], alts := [], laidByText := true, laidKinds := [.data, .data, .data, .data, .sentinel, .sentinel, .pinned], laidTests := true, laidLooks := .later }
def StorePlaysCardSaid : Prop := Claim7.holds Tryz.pinned (.plain (OpenSpec.ofChange storePlaysSpec)) storePlaysCard

/-- THE TIED CARD OF 'provisionlaw35.JournalBegins'. -/
def journalBeginsCard : Claim7 := { stood := { row := journalBeginsRow, standIns := [], harness := (true, "98c3e775266fabaef0442c2de8422e73498c10053a64f7e9aa973b3206e1758d"), looks := true }, kinds := [], alts := [], laidByText := true, laidKinds := [.data, .data, .data, .data, .sentinel, .sentinel, .pinned], laidTests := true, laidLooks := .later }
def JournalBeginsCardSaid : Prop := Claim7.holds Tryz.pinned (.plain (OpenSpec.ofChange journalBeginsSpec)) journalBeginsCard

/-- THE TIED CARD OF 'provisionlaw35.JournalChecks'. -/
def journalChecksCard : Claim7 := { stood := { row := journalChecksRow, standIns := [], harness := (true, "98c3e775266fabaef0442c2de8422e73498c10053a64f7e9aa973b3206e1758d"), looks := true }, kinds := [], alts := [], laidByText := true, laidKinds := [.data, .data, .data, .data, .sentinel, .sentinel, .pinned], laidTests := true, laidLooks := .later }
def JournalChecksCardSaid : Prop := Claim7.holds Tryz.pinned (.plain (OpenSpec.ofChange journalChecksSpec)) journalChecksCard

/-- THE TIED CARD OF 'provisionlaw50.RecoveryNothing'. -/
def recoveryNothingCard : Claim7 := { stood := { row := recoveryNothingRow, standIns := [], harness := (true, "98c3e775266fabaef0442c2de8422e73498c10053a64f7e9aa973b3206e1758d"), looks := true }, kinds := [], alts := [], laidByText := true, laidKinds := [.data, .data, .data, .data, .sentinel, .sentinel, .pinned], laidTests := true, laidLooks := .later }
def RecoveryNothingCardSaid : Prop := Claim7.holds Tryz.pinned (.plain (OpenSpec.ofChange recoveryNothingSpec)) recoveryNothingCard

/-- THE SECOND FORM's CARD OF 'provisionlaw34.StorePlays'. -/
def storePlaysUptoCard : Claim7 := { stood := { row := storePlaysUptoRow, standIns := [], harness := (true, "98c3e775266fabaef0442c2de8422e73498c10053a64f7e9aa973b3206e1758d"), looks := true }, kinds := [], alts := [], laidByText := true, laidKinds := [.data, .data, .data, .data, .sentinel, .sentinel, .pinned], laidTests := true, laidLooks := .later }
def StorePlaysUptoCardSaid : Prop := Claim7.holds Tryz.pinned (.plain (OpenSpec.upto storePlaysSpec)) storePlaysUptoCard

/-- THE SECOND FORM's CARD OF 'provisionlaw35.JournalBegins'. -/
def journalBeginsUptoCard : Claim7 := { stood := { row := journalBeginsUptoRow, standIns := [], harness := (true, "98c3e775266fabaef0442c2de8422e73498c10053a64f7e9aa973b3206e1758d"), looks := true }, kinds := [], alts := [], laidByText := true, laidKinds := [.data, .data, .data, .data, .sentinel, .sentinel, .pinned], laidTests := true, laidLooks := .later }
def JournalBeginsUptoCardSaid : Prop := Claim7.holds Tryz.pinned (.plain (OpenSpec.upto journalBeginsSpec)) journalBeginsUptoCard

/-- THE SECOND FORM's CARD OF 'provisionlaw35.JournalChecks'. -/
def journalChecksUptoCard : Claim7 := { stood := { row := journalChecksUptoRow, standIns := [], harness := (true, "98c3e775266fabaef0442c2de8422e73498c10053a64f7e9aa973b3206e1758d"), looks := true }, kinds := [], alts := [], laidByText := true, laidKinds := [.data, .data, .data, .data, .sentinel, .sentinel, .pinned], laidTests := true, laidLooks := .later }
def JournalChecksUptoCardSaid : Prop := Claim7.holds Tryz.pinned (.plain (OpenSpec.upto journalChecksSpec)) journalChecksUptoCard

/-- THE SECOND FORM's CARD OF 'provisionlaw50.RecoveryNothing'. -/
def recoveryNothingUptoCard : Claim7 := { stood := { row := recoveryNothingUptoRow, standIns := [], harness := (true, "98c3e775266fabaef0442c2de8422e73498c10053a64f7e9aa973b3206e1758d"), looks := true }, kinds := [], alts := [], laidByText := true, laidKinds := [.data, .data, .data, .data, .sentinel, .sentinel, .pinned], laidTests := true, laidLooks := .later }
def RecoveryNothingUptoCardSaid : Prop := Claim7.holds Tryz.pinned (.plain (OpenSpec.upto recoveryNothingSpec)) recoveryNothingUptoCard
end Rows
end Go.Proofs.YteklhoajalgehaaGreatDoor
