/-
  NARROWER THAN 'FOR EVERY INPUT', by the rows' own cells (each row's printed sentence says how): TokenScan: laid · TokenChecks: laid · TokenBack: laid · TokenShortest: laid · TokenOffsets: laid · TokenTails: laid · TokenLimits: laid.
  DERIVED. THE GIVEN ROWS OF THIS SEAT. 7 by the template 'for every input the law returns true; each argument reads behind the call as it read before'; 0 by the template 'total and deterministic' (their statements: YtbpaeglmanjbfaaDoorTotals.lean).
  GIVEN WITH THE SEED: the statements are not yours to turn. If you find one false, say at which input.
  Laid BY PROGRAM, IN A SANDBOX (cutbox-rows.mjs): the forced cells as the released guide's own fill.sh prints them over the translation 23c728281acb1990… (all of the seat's roots in one cut). By AI agents, Wed Nov 11 2026. No macro, syntax, notation, axiom, sorry.
-/
import Derived.Test.YtbpaeglmanjbfaaDoorChecked
import GoSem.PinnedTables
import GoSem.Claim
import GoSem.ClaimJoined
import GoSem.ClaimMapViews
import Derived.JoinedTies
import Derived.KernelRfl
namespace Go.Proofs.YtbpaeglmanjbfaaDoor
/- THE CELL 'sum', in the pinned program and in every row, IS THE sha256 OF THE DUMP (.gsa) THAT YtbpaeglmanjbfaaDoorProg.lean LOADS. Nothing in Lean hashes anything: it is a label: what it is worth is what the hold of that sum in a sandbox is worth. -/
noncomputable def Tryd.pinned : Pinned := { name := "ytbpaeglmanjbfaadoor", sum := "23c728281acb19904fcce1644037150e9df9373db8aac734fa5053d767ab4a0e", checked := Tryd.checked }
namespace Rows
def none {H : Type} : Left H := { results := [], args := [] }

/- WHAT THE LISTED PACKAGE-LEVEL VARIABLES READ AS WHEN THE CALL BEGINS. Each datum BY PROGRAM (the guide's laid-datum.mjs) off the statement by which the dump's own 'gosem.cut.vars' lays the variable. In a bare row this is a premise. The card (YtbpaeglmanjbfaaDoorCards.lean) ties it to the program's text. -/
def laid_unicode_utf8_acceptRanges {H : Type} : DataW H := .agg [.agg [.lit (.int .u8 128), .lit (.int .u8 191)], .agg [.lit (.int .u8 160), .lit (.int .u8 191)], .agg [.lit (.int .u8 128), .lit (.int .u8 159)], .agg [.lit (.int .u8 144), .lit (.int .u8 191)], .agg [.lit (.int .u8 128), .lit (.int .u8 143)], .agg [.lit (.int .u8 0), .lit (.int .u8 0)], .agg [.lit (.int .u8 0), .lit (.int .u8 0)], .agg [.lit (.int .u8 0), .lit (.int .u8 0)], .agg [.lit (.int .u8 0), .lit (.int .u8 0)], .agg [.lit (.int .u8 0), .lit (.int .u8 0)], .agg [.lit (.int .u8 0), .lit (.int .u8 0)], .agg [.lit (.int .u8 0), .lit (.int .u8 0)], .agg [.lit (.int .u8 0), .lit (.int .u8 0)], .agg [.lit (.int .u8 0), .lit (.int .u8 0)], .agg [.lit (.int .u8 0), .lit (.int .u8 0)], .agg [.lit (.int .u8 0), .lit (.int .u8 0)]]
/-- One of Go's own tables, pinned by name: the form's constant. -/
def laid_unicode_utf8_first : DataW Unit := Go.Pinned.utf8First

/-- 'provisionlaw13.TokenScan': WHATEVER THE INPUT: true; the input reads as it did. -/
def tokenScanSpec : ChangeSpec := { name := "tokenScan", fn := fun _ => fun
  | [d] => { results := [.lit (.bool true)], args := [d] }
  | _ => none }
def tokenScanRow : OpenClaim := { program := "ytbpaeglmanjbfaadoor", sum := "23c728281acb19904fcce1644037150e9df9373db8aac734fa5053d767ab4a0e", func := "provision/provisionlaw13.TokenScan", spec := "tokenScan", inPlace := ["internal/bytealg.IndexByteString", "internal/bytealg.IndexString", "internal/abi.NoEscape"], unfollowed := true, recurses := true, named := ["unicode/utf8.first", "unicode/utf8.acceptRanges", "internal/bytealg.MaxLen"], apart := false, laid := [("unicode/utf8.acceptRanges", laid_unicode_utf8_acceptRanges), ("unicode/utf8.first", laid_unicode_utf8_first)] }
def TokenScanSaid : Prop := tokenScanRow.holds Tryd.pinned (OpenSpec.ofChange tokenScanSpec)

/-- ITS FALSE NEIGHBOUR: 'it returns false'. Refute it at one input. -/
def tokenScanWrong : ChangeSpec := { name := "tokenScan", fn := fun _ => fun
  | [d] => { results := [.lit (.bool false)], args := [d] }
  | _ => none }
def TokenScanWrongFalsely : Prop := tokenScanRow.holds Tryd.pinned (OpenSpec.ofChange tokenScanWrong)

/-- 'provisionlaw13.TokenChecks': WHATEVER THE INPUT: true; the input reads as it did. -/
def tokenChecksSpec : ChangeSpec := { name := "tokenChecks", fn := fun _ => fun
  | [d] => { results := [.lit (.bool true)], args := [d] }
  | _ => none }
def tokenChecksRow : OpenClaim := { program := "ytbpaeglmanjbfaadoor", sum := "23c728281acb19904fcce1644037150e9df9373db8aac734fa5053d767ab4a0e", func := "provision/provisionlaw13.TokenChecks", spec := "tokenChecks", inPlace := ["internal/bytealg.IndexByteString", "internal/bytealg.IndexString", "internal/abi.NoEscape"], unfollowed := true, recurses := true, named := ["unicode/utf8.first", "unicode/utf8.acceptRanges", "internal/bytealg.MaxLen"], apart := false, laid := [("unicode/utf8.acceptRanges", laid_unicode_utf8_acceptRanges), ("unicode/utf8.first", laid_unicode_utf8_first)] }
def TokenChecksSaid : Prop := tokenChecksRow.holds Tryd.pinned (OpenSpec.ofChange tokenChecksSpec)

/-- ITS FALSE NEIGHBOUR: 'it returns false'. Refute it at one input. -/
def tokenChecksWrong : ChangeSpec := { name := "tokenChecks", fn := fun _ => fun
  | [d] => { results := [.lit (.bool false)], args := [d] }
  | _ => none }
def TokenChecksWrongFalsely : Prop := tokenChecksRow.holds Tryd.pinned (OpenSpec.ofChange tokenChecksWrong)

/-- 'provisionlaw13.TokenBack': WHATEVER THE INPUT: true; the input reads as it did. -/
def tokenBackSpec : ChangeSpec := { name := "tokenBack", fn := fun _ => fun
  | [d] => { results := [.lit (.bool true)], args := [d] }
  | _ => none }
def tokenBackRow : OpenClaim := { program := "ytbpaeglmanjbfaadoor", sum := "23c728281acb19904fcce1644037150e9df9373db8aac734fa5053d767ab4a0e", func := "provision/provisionlaw13.TokenBack", spec := "tokenBack", inPlace := ["internal/bytealg.IndexByteString", "internal/bytealg.IndexString", "internal/abi.NoEscape"], unfollowed := true, recurses := true, named := ["unicode/utf8.first", "unicode/utf8.acceptRanges", "internal/bytealg.MaxLen"], apart := false, laid := [("unicode/utf8.acceptRanges", laid_unicode_utf8_acceptRanges), ("unicode/utf8.first", laid_unicode_utf8_first)] }
def TokenBackSaid : Prop := tokenBackRow.holds Tryd.pinned (OpenSpec.ofChange tokenBackSpec)

/-- ITS FALSE NEIGHBOUR: 'it returns false'. Refute it at one input. -/
def tokenBackWrong : ChangeSpec := { name := "tokenBack", fn := fun _ => fun
  | [d] => { results := [.lit (.bool false)], args := [d] }
  | _ => none }
def TokenBackWrongFalsely : Prop := tokenBackRow.holds Tryd.pinned (OpenSpec.ofChange tokenBackWrong)

/-- 'provisionlaw13.TokenShortest': WHATEVER THE INPUT: true; the input reads as it did. -/
def tokenShortestSpec : ChangeSpec := { name := "tokenShortest", fn := fun _ => fun
  | [d] => { results := [.lit (.bool true)], args := [d] }
  | _ => none }
def tokenShortestRow : OpenClaim := { program := "ytbpaeglmanjbfaadoor", sum := "23c728281acb19904fcce1644037150e9df9373db8aac734fa5053d767ab4a0e", func := "provision/provisionlaw13.TokenShortest", spec := "tokenShortest", inPlace := ["internal/bytealg.IndexByteString", "internal/bytealg.IndexString", "internal/abi.NoEscape"], unfollowed := true, recurses := true, named := ["unicode/utf8.first", "unicode/utf8.acceptRanges", "internal/bytealg.MaxLen"], apart := false, laid := [("unicode/utf8.acceptRanges", laid_unicode_utf8_acceptRanges), ("unicode/utf8.first", laid_unicode_utf8_first)] }
def TokenShortestSaid : Prop := tokenShortestRow.holds Tryd.pinned (OpenSpec.ofChange tokenShortestSpec)

/-- ITS FALSE NEIGHBOUR: 'it returns false'. Refute it at one input. -/
def tokenShortestWrong : ChangeSpec := { name := "tokenShortest", fn := fun _ => fun
  | [d] => { results := [.lit (.bool false)], args := [d] }
  | _ => none }
def TokenShortestWrongFalsely : Prop := tokenShortestRow.holds Tryd.pinned (OpenSpec.ofChange tokenShortestWrong)

/-- 'provisionlaw13.TokenOffsets': WHATEVER THE INPUT: true; the input reads as it did. -/
def tokenOffsetsSpec : ChangeSpec := { name := "tokenOffsets", fn := fun _ => fun
  | [d] => { results := [.lit (.bool true)], args := [d] }
  | _ => none }
def tokenOffsetsRow : OpenClaim := { program := "ytbpaeglmanjbfaadoor", sum := "23c728281acb19904fcce1644037150e9df9373db8aac734fa5053d767ab4a0e", func := "provision/provisionlaw13.TokenOffsets", spec := "tokenOffsets", inPlace := ["internal/bytealg.IndexByteString", "internal/bytealg.IndexString", "internal/abi.NoEscape"], unfollowed := true, recurses := true, named := ["unicode/utf8.first", "unicode/utf8.acceptRanges", "internal/bytealg.MaxLen"], apart := false, laid := [("unicode/utf8.acceptRanges", laid_unicode_utf8_acceptRanges), ("unicode/utf8.first", laid_unicode_utf8_first)] }
def TokenOffsetsSaid : Prop := tokenOffsetsRow.holds Tryd.pinned (OpenSpec.ofChange tokenOffsetsSpec)

/-- ITS FALSE NEIGHBOUR: 'it returns false'. Refute it at one input. -/
def tokenOffsetsWrong : ChangeSpec := { name := "tokenOffsets", fn := fun _ => fun
  | [d] => { results := [.lit (.bool false)], args := [d] }
  | _ => none }
def TokenOffsetsWrongFalsely : Prop := tokenOffsetsRow.holds Tryd.pinned (OpenSpec.ofChange tokenOffsetsWrong)

/-- 'provisionlaw13.TokenTails': WHATEVER THE INPUT: true; the input reads as it did. -/
def tokenTailsSpec : ChangeSpec := { name := "tokenTails", fn := fun _ => fun
  | [d1, d2, d3] => { results := [.lit (.bool true)], args := [d1, d2, d3] }
  | _ => none }
def tokenTailsRow : OpenClaim := { program := "ytbpaeglmanjbfaadoor", sum := "23c728281acb19904fcce1644037150e9df9373db8aac734fa5053d767ab4a0e", func := "provision/provisionlaw13.TokenTails", spec := "tokenTails", inPlace := ["internal/bytealg.IndexByteString", "internal/bytealg.IndexString", "internal/abi.NoEscape", "internal/bytealg.MakeNoZero"], unfollowed := true, recurses := true, named := ["internal/bytealg.MaxLen", "unicode/utf8.first", "unicode/utf8.acceptRanges"], apart := false, laid := [("unicode/utf8.acceptRanges", laid_unicode_utf8_acceptRanges), ("unicode/utf8.first", laid_unicode_utf8_first)] }
def TokenTailsSaid : Prop := tokenTailsRow.holds Tryd.pinned (OpenSpec.ofChange tokenTailsSpec)

/-- ITS FALSE NEIGHBOUR: 'it returns false'. Refute it at one input. -/
def tokenTailsWrong : ChangeSpec := { name := "tokenTails", fn := fun _ => fun
  | [d1, d2, d3] => { results := [.lit (.bool false)], args := [d1, d2, d3] }
  | _ => none }
def TokenTailsWrongFalsely : Prop := tokenTailsRow.holds Tryd.pinned (OpenSpec.ofChange tokenTailsWrong)

/-- 'provisionlaw13.TokenLimits': WHATEVER THE INPUT: true; the input reads as it did. -/
def tokenLimitsSpec : ChangeSpec := { name := "tokenLimits", fn := fun _ => fun
  | [d1, d2, d3] => { results := [.lit (.bool true)], args := [d1, d2, d3] }
  | _ => none }
def tokenLimitsRow : OpenClaim := { program := "ytbpaeglmanjbfaadoor", sum := "23c728281acb19904fcce1644037150e9df9373db8aac734fa5053d767ab4a0e", func := "provision/provisionlaw13.TokenLimits", spec := "tokenLimits", inPlace := ["internal/abi.NoEscape", "internal/bytealg.MakeNoZero", "internal/bytealg.IndexByteString", "internal/bytealg.IndexString"], unfollowed := true, recurses := true, named := ["unicode/utf8.first", "unicode/utf8.acceptRanges", "internal/bytealg.MaxLen"], apart := false, laid := [("unicode/utf8.acceptRanges", laid_unicode_utf8_acceptRanges), ("unicode/utf8.first", laid_unicode_utf8_first)] }
def TokenLimitsSaid : Prop := tokenLimitsRow.holds Tryd.pinned (OpenSpec.ofChange tokenLimitsSpec)

/-- ITS FALSE NEIGHBOUR: 'it returns false'. Refute it at one input. -/
def tokenLimitsWrong : ChangeSpec := { name := "tokenLimits", fn := fun _ => fun
  | [d1, d2, d3] => { results := [.lit (.bool false)], args := [d1, d2, d3] }
  | _ => none }
def TokenLimitsWrongFalsely : Prop := tokenLimitsRow.holds Tryd.pinned (OpenSpec.ofChange tokenLimitsWrong)

/- THE SECOND FORM. 'bulk': how many values and letters a reading holds, each counted each time it is reached (what is shared counts as often as it is met; a slice's spare places count too). A statement '..UptoSaid' is the law's where the arguments, and the package variables that the reading takes, are together of bulk at most 1048576: NARROWER than '..Said'. Prove '..Said' where nothing that the law and all that it calls make is longer than what came in: it says more and counts as full. Else prove '..UptoSaid'. A law counts once. -/
mutual
def uptoBulk {H : Type} : DataW H → Nat
  | .lit (.string bytes) => bytes.length + 1
  | .lit _ => 1
  | .nil => 1
  | .ptr d => uptoBulk d + 1
  | .slice elems spare => uptoBulkAll elems + uptoBulkAll spare + 1
  | .agg parts => uptoBulkAll parts + 1
  | .iface _ d => uptoBulk d + 1
  | .map entries => uptoBulkEntries entries + 1
  | .held _ => 1
def uptoBulkAll {H : Type} : List (DataW H) → Nat
  | [] => 0
  | d :: r => uptoBulk d + uptoBulkAll r
def uptoBulkEntries {H : Type} : List (Lit × DataW H) → Nat
  | [] => 0
  | x :: r => uptoBulkEntry x + uptoBulkEntries r
def uptoBulkEntry {H : Type} : Lit × DataW H → Nat
  | (.string bytes, d) => bytes.length + uptoBulk d + 1
  | (_, d) => uptoBulk d + 1
 end
def uptoSmall : (H : Type) → List (DataW H) → Bool := fun _ ds => decide (uptoBulkAll ds ≤ 1048576)
def OpenSpec.upto (s : _root_.Go.ChangeSpec) : _root_.Go.OpenSpec := { _root_.Go.OpenSpec.ofChange s with cond := some uptoSmall }

/-- 'provisionlaw13.TokenScan', WHERE WHAT IT READS IS OF BULK AT MOST 1048576: true; the input reads as it did. -/
def tokenScanUptoRow : OpenClaim := { program := "ytbpaeglmanjbfaadoor", sum := "23c728281acb19904fcce1644037150e9df9373db8aac734fa5053d767ab4a0e", func := "provision/provisionlaw13.TokenScan", spec := "tokenScan", inPlace := ["internal/bytealg.IndexByteString", "internal/bytealg.IndexString", "internal/abi.NoEscape"], unfollowed := true, recurses := true, named := ["unicode/utf8.first", "unicode/utf8.acceptRanges", "internal/bytealg.MaxLen"], apart := false, laid := [("unicode/utf8.acceptRanges", laid_unicode_utf8_acceptRanges), ("unicode/utf8.first", laid_unicode_utf8_first)], narrowed := true }
def TokenScanUptoSaid : Prop := tokenScanUptoRow.holds Tryd.pinned (OpenSpec.upto tokenScanSpec)

/-- 'provisionlaw13.TokenChecks', WHERE WHAT IT READS IS OF BULK AT MOST 1048576: true; the input reads as it did. -/
def tokenChecksUptoRow : OpenClaim := { program := "ytbpaeglmanjbfaadoor", sum := "23c728281acb19904fcce1644037150e9df9373db8aac734fa5053d767ab4a0e", func := "provision/provisionlaw13.TokenChecks", spec := "tokenChecks", inPlace := ["internal/bytealg.IndexByteString", "internal/bytealg.IndexString", "internal/abi.NoEscape"], unfollowed := true, recurses := true, named := ["unicode/utf8.first", "unicode/utf8.acceptRanges", "internal/bytealg.MaxLen"], apart := false, laid := [("unicode/utf8.acceptRanges", laid_unicode_utf8_acceptRanges), ("unicode/utf8.first", laid_unicode_utf8_first)], narrowed := true }
def TokenChecksUptoSaid : Prop := tokenChecksUptoRow.holds Tryd.pinned (OpenSpec.upto tokenChecksSpec)

/-- 'provisionlaw13.TokenBack', WHERE WHAT IT READS IS OF BULK AT MOST 1048576: true; the input reads as it did. -/
def tokenBackUptoRow : OpenClaim := { program := "ytbpaeglmanjbfaadoor", sum := "23c728281acb19904fcce1644037150e9df9373db8aac734fa5053d767ab4a0e", func := "provision/provisionlaw13.TokenBack", spec := "tokenBack", inPlace := ["internal/bytealg.IndexByteString", "internal/bytealg.IndexString", "internal/abi.NoEscape"], unfollowed := true, recurses := true, named := ["unicode/utf8.first", "unicode/utf8.acceptRanges", "internal/bytealg.MaxLen"], apart := false, laid := [("unicode/utf8.acceptRanges", laid_unicode_utf8_acceptRanges), ("unicode/utf8.first", laid_unicode_utf8_first)], narrowed := true }
def TokenBackUptoSaid : Prop := tokenBackUptoRow.holds Tryd.pinned (OpenSpec.upto tokenBackSpec)

/-- 'provisionlaw13.TokenShortest', WHERE WHAT IT READS IS OF BULK AT MOST 1048576: true; the input reads as it did. -/
def tokenShortestUptoRow : OpenClaim := { program := "ytbpaeglmanjbfaadoor", sum := "23c728281acb19904fcce1644037150e9df9373db8aac734fa5053d767ab4a0e", func := "provision/provisionlaw13.TokenShortest", spec := "tokenShortest", inPlace := ["internal/bytealg.IndexByteString", "internal/bytealg.IndexString", "internal/abi.NoEscape"], unfollowed := true, recurses := true, named := ["unicode/utf8.first", "unicode/utf8.acceptRanges", "internal/bytealg.MaxLen"], apart := false, laid := [("unicode/utf8.acceptRanges", laid_unicode_utf8_acceptRanges), ("unicode/utf8.first", laid_unicode_utf8_first)], narrowed := true }
def TokenShortestUptoSaid : Prop := tokenShortestUptoRow.holds Tryd.pinned (OpenSpec.upto tokenShortestSpec)

/-- 'provisionlaw13.TokenOffsets', WHERE WHAT IT READS IS OF BULK AT MOST 1048576: true; the input reads as it did. -/
def tokenOffsetsUptoRow : OpenClaim := { program := "ytbpaeglmanjbfaadoor", sum := "23c728281acb19904fcce1644037150e9df9373db8aac734fa5053d767ab4a0e", func := "provision/provisionlaw13.TokenOffsets", spec := "tokenOffsets", inPlace := ["internal/bytealg.IndexByteString", "internal/bytealg.IndexString", "internal/abi.NoEscape"], unfollowed := true, recurses := true, named := ["unicode/utf8.first", "unicode/utf8.acceptRanges", "internal/bytealg.MaxLen"], apart := false, laid := [("unicode/utf8.acceptRanges", laid_unicode_utf8_acceptRanges), ("unicode/utf8.first", laid_unicode_utf8_first)], narrowed := true }
def TokenOffsetsUptoSaid : Prop := tokenOffsetsUptoRow.holds Tryd.pinned (OpenSpec.upto tokenOffsetsSpec)

/-- 'provisionlaw13.TokenTails', WHERE WHAT IT READS IS OF BULK AT MOST 1048576: true; the input reads as it did. -/
def tokenTailsUptoRow : OpenClaim := { program := "ytbpaeglmanjbfaadoor", sum := "23c728281acb19904fcce1644037150e9df9373db8aac734fa5053d767ab4a0e", func := "provision/provisionlaw13.TokenTails", spec := "tokenTails", inPlace := ["internal/bytealg.IndexByteString", "internal/bytealg.IndexString", "internal/abi.NoEscape", "internal/bytealg.MakeNoZero"], unfollowed := true, recurses := true, named := ["internal/bytealg.MaxLen", "unicode/utf8.first", "unicode/utf8.acceptRanges"], apart := false, laid := [("unicode/utf8.acceptRanges", laid_unicode_utf8_acceptRanges), ("unicode/utf8.first", laid_unicode_utf8_first)], narrowed := true }
def TokenTailsUptoSaid : Prop := tokenTailsUptoRow.holds Tryd.pinned (OpenSpec.upto tokenTailsSpec)

/-- 'provisionlaw13.TokenLimits', WHERE WHAT IT READS IS OF BULK AT MOST 1048576: true; the input reads as it did. -/
def tokenLimitsUptoRow : OpenClaim := { program := "ytbpaeglmanjbfaadoor", sum := "23c728281acb19904fcce1644037150e9df9373db8aac734fa5053d767ab4a0e", func := "provision/provisionlaw13.TokenLimits", spec := "tokenLimits", inPlace := ["internal/abi.NoEscape", "internal/bytealg.MakeNoZero", "internal/bytealg.IndexByteString", "internal/bytealg.IndexString"], unfollowed := true, recurses := true, named := ["unicode/utf8.first", "unicode/utf8.acceptRanges", "internal/bytealg.MaxLen"], apart := false, laid := [("unicode/utf8.acceptRanges", laid_unicode_utf8_acceptRanges), ("unicode/utf8.first", laid_unicode_utf8_first)], narrowed := true }
def TokenLimitsUptoSaid : Prop := tokenLimitsUptoRow.holds Tryd.pinned (OpenSpec.upto tokenLimitsSpec)

end Rows
end Go.Proofs.YtbpaeglmanjbfaaDoor
