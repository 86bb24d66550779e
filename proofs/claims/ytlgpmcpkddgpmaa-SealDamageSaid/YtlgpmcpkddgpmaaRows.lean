/-
  No cell of these rows narrows 'for every input' (looked for: loops, veiled, ifaces, maps, wideKeys, modest, calm, conditions, laid).
  DERIVED. THE GIVEN ROWS OF THIS SEAT. 12 by the template 'for every input the law returns true; each argument reads behind the call as it read before'; 0 by the template 'total and deterministic' (their statements: YtlgpmcpkddgpmaaTotals.lean).
  GIVEN WITH THE SEED: the statements are not yours to turn. If you find one false, say at which input.
  Laid BY PROGRAM, IN A SANDBOX (cutbox-rows.mjs): the forced cells as the released guide's own fill.sh prints them over the translation ad92648aeeeabaea… (all of the seat's roots in one cut). By AI agents, Wed Nov 11 2026. No macro, syntax, notation, axiom, sorry.
-/
import Derived.Test.YtlgpmcpkddgpmaaChecked
import GoSem.Claim
import GoSem.ClaimJoined
import GoSem.ClaimMapViews
import Derived.JoinedTies
import Derived.KernelRfl
namespace Go.Proofs.Ytlgpmcpkddgpmaa
/- THE CELL 'sum', in the pinned program and in every row, IS THE sha256 OF THE DUMP (.gsa) THAT YtlgpmcpkddgpmaaProg.lean LOADS. Nothing in Lean hashes anything: it is a label: what it is worth is what the hold of that sum in a sandbox is worth. -/
noncomputable def Try.pinned : Pinned := { name := "ytlgpmcpkddgpmaa", sum := "ad92648aeeeabaea01a0710c65c5bd0d32193ce247879ae9225d9c8746f2d040", checked := Try.checked }
namespace Rows
def none {H : Type} : Left H := { results := [], args := [] }

/-- 'provisionlaw03.ChecksumSums': WHATEVER THE INPUT: true; the input reads as it did. -/
def checksumSumsSpec : ChangeSpec := { name := "checksumSums", fn := fun _ => fun
  | [d1, d2] => { results := [.lit (.bool true)], args := [d1, d2] }
  | _ => none }
def checksumSumsRow : OpenClaim := { program := "ytlgpmcpkddgpmaa", sum := "ad92648aeeeabaea01a0710c65c5bd0d32193ce247879ae9225d9c8746f2d040", func := "provision/provisionlaw03.ChecksumSums", spec := "checksumSums", apart := false }
def ChecksumSumsSaid : Prop := checksumSumsRow.holds Try.pinned (OpenSpec.ofChange checksumSumsSpec)

/-- ITS FALSE NEIGHBOUR: 'it returns false'. Refute it at one input. -/
def checksumSumsWrong : ChangeSpec := { name := "checksumSums", fn := fun _ => fun
  | [d1, d2] => { results := [.lit (.bool false)], args := [d1, d2] }
  | _ => none }
def ChecksumSumsWrongFalsely : Prop := checksumSumsRow.holds Try.pinned (OpenSpec.ofChange checksumSumsWrong)

/-- 'provisionlaw03.ChecksumParts': WHATEVER THE INPUT: true; the input reads as it did. -/
def checksumPartsSpec : ChangeSpec := { name := "checksumParts", fn := fun _ => fun
  | [d1, d2] => { results := [.lit (.bool true)], args := [d1, d2] }
  | _ => none }
def checksumPartsRow : OpenClaim := { program := "ytlgpmcpkddgpmaa", sum := "ad92648aeeeabaea01a0710c65c5bd0d32193ce247879ae9225d9c8746f2d040", func := "provision/provisionlaw03.ChecksumParts", spec := "checksumParts", apart := false }
def ChecksumPartsSaid : Prop := checksumPartsRow.holds Try.pinned (OpenSpec.ofChange checksumPartsSpec)

/-- ITS FALSE NEIGHBOUR: 'it returns false'. Refute it at one input. -/
def checksumPartsWrong : ChangeSpec := { name := "checksumParts", fn := fun _ => fun
  | [d1, d2] => { results := [.lit (.bool false)], args := [d1, d2] }
  | _ => none }
def ChecksumPartsWrongFalsely : Prop := checksumPartsRow.holds Try.pinned (OpenSpec.ofChange checksumPartsWrong)

/-- 'provisionlaw03.ChecksumAppends': WHATEVER THE INPUT: true; the input reads as it did. -/
def checksumAppendsSpec : ChangeSpec := { name := "checksumAppends", fn := fun _ => fun
  | [d] => { results := [.lit (.bool true)], args := [d] }
  | _ => none }
def checksumAppendsRow : OpenClaim := { program := "ytlgpmcpkddgpmaa", sum := "ad92648aeeeabaea01a0710c65c5bd0d32193ce247879ae9225d9c8746f2d040", func := "provision/provisionlaw03.ChecksumAppends", spec := "checksumAppends", apart := false }
def ChecksumAppendsSaid : Prop := checksumAppendsRow.holds Try.pinned (OpenSpec.ofChange checksumAppendsSpec)

/-- ITS FALSE NEIGHBOUR: 'it returns false'. Refute it at one input. -/
def checksumAppendsWrong : ChangeSpec := { name := "checksumAppends", fn := fun _ => fun
  | [d] => { results := [.lit (.bool false)], args := [d] }
  | _ => none }
def ChecksumAppendsWrongFalsely : Prop := checksumAppendsRow.holds Try.pinned (OpenSpec.ofChange checksumAppendsWrong)

/-- 'provisionlaw03.ChecksumVerifies': WHATEVER THE INPUT: true; the input reads as it did. -/
def checksumVerifiesSpec : ChangeSpec := { name := "checksumVerifies", fn := fun _ => fun
  | [d] => { results := [.lit (.bool true)], args := [d] }
  | _ => none }
def checksumVerifiesRow : OpenClaim := { program := "ytlgpmcpkddgpmaa", sum := "ad92648aeeeabaea01a0710c65c5bd0d32193ce247879ae9225d9c8746f2d040", func := "provision/provisionlaw03.ChecksumVerifies", spec := "checksumVerifies", apart := false }
def ChecksumVerifiesSaid : Prop := checksumVerifiesRow.holds Try.pinned (OpenSpec.ofChange checksumVerifiesSpec)

/-- ITS FALSE NEIGHBOUR: 'it returns false'. Refute it at one input. -/
def checksumVerifiesWrong : ChangeSpec := { name := "checksumVerifies", fn := fun _ => fun
  | [d] => { results := [.lit (.bool false)], args := [d] }
  | _ => none }
def ChecksumVerifiesWrongFalsely : Prop := checksumVerifiesRow.holds Try.pinned (OpenSpec.ofChange checksumVerifiesWrong)

/-- 'provisionlaw03.ChecksumBursts': WHATEVER THE INPUT: true; the input reads as it did. -/
def checksumBurstsSpec : ChangeSpec := { name := "checksumBursts", fn := fun _ => fun
  | [d1, d2, d3] => { results := [.lit (.bool true)], args := [d1, d2, d3] }
  | _ => none }
def checksumBurstsRow : OpenClaim := { program := "ytlgpmcpkddgpmaa", sum := "ad92648aeeeabaea01a0710c65c5bd0d32193ce247879ae9225d9c8746f2d040", func := "provision/provisionlaw03.ChecksumBursts", spec := "checksumBursts", apart := false }
def ChecksumBurstsSaid : Prop := checksumBurstsRow.holds Try.pinned (OpenSpec.ofChange checksumBurstsSpec)

/-- ITS FALSE NEIGHBOUR: 'it returns false'. Refute it at one input. -/
def checksumBurstsWrong : ChangeSpec := { name := "checksumBursts", fn := fun _ => fun
  | [d1, d2, d3] => { results := [.lit (.bool false)], args := [d1, d2, d3] }
  | _ => none }
def ChecksumBurstsWrongFalsely : Prop := checksumBurstsRow.holds Try.pinned (OpenSpec.ofChange checksumBurstsWrong)

/-- 'provisionlaw33.SealSeals': WHATEVER THE INPUT: true; the input reads as it did. -/
def sealSealsSpec : ChangeSpec := { name := "sealSeals", fn := fun _ => fun
  | [d1, d2, d3] => { results := [.lit (.bool true)], args := [d1, d2, d3] }
  | _ => none }
def sealSealsRow : OpenClaim := { program := "ytlgpmcpkddgpmaa", sum := "ad92648aeeeabaea01a0710c65c5bd0d32193ce247879ae9225d9c8746f2d040", func := "provision/provisionlaw33.SealSeals", spec := "sealSeals", apart := false }
def SealSealsSaid : Prop := sealSealsRow.holds Try.pinned (OpenSpec.ofChange sealSealsSpec)

/-- ITS FALSE NEIGHBOUR: 'it returns false'. Refute it at one input. -/
def sealSealsWrong : ChangeSpec := { name := "sealSeals", fn := fun _ => fun
  | [d1, d2, d3] => { results := [.lit (.bool false)], args := [d1, d2, d3] }
  | _ => none }
def SealSealsWrongFalsely : Prop := sealSealsRow.holds Try.pinned (OpenSpec.ofChange sealSealsWrong)

/-- 'provisionlaw33.SealOpens': WHATEVER THE INPUT: true; the input reads as it did. -/
def sealOpensSpec : ChangeSpec := { name := "sealOpens", fn := fun _ => fun
  | [d1, d2] => { results := [.lit (.bool true)], args := [d1, d2] }
  | _ => none }
def sealOpensRow : OpenClaim := { program := "ytlgpmcpkddgpmaa", sum := "ad92648aeeeabaea01a0710c65c5bd0d32193ce247879ae9225d9c8746f2d040", func := "provision/provisionlaw33.SealOpens", spec := "sealOpens", apart := false }
def SealOpensSaid : Prop := sealOpensRow.holds Try.pinned (OpenSpec.ofChange sealOpensSpec)

/-- ITS FALSE NEIGHBOUR: 'it returns false'. Refute it at one input. -/
def sealOpensWrong : ChangeSpec := { name := "sealOpens", fn := fun _ => fun
  | [d1, d2] => { results := [.lit (.bool false)], args := [d1, d2] }
  | _ => none }
def SealOpensWrongFalsely : Prop := sealOpensRow.holds Try.pinned (OpenSpec.ofChange sealOpensWrong)

/-- 'provisionlaw33.SealBack': WHATEVER THE INPUT: true; the input reads as it did. -/
def sealBackSpec : ChangeSpec := { name := "sealBack", fn := fun _ => fun
  | [d1, d2, d3] => { results := [.lit (.bool true)], args := [d1, d2, d3] }
  | _ => none }
def sealBackRow : OpenClaim := { program := "ytlgpmcpkddgpmaa", sum := "ad92648aeeeabaea01a0710c65c5bd0d32193ce247879ae9225d9c8746f2d040", func := "provision/provisionlaw33.SealBack", spec := "sealBack", apart := false }
def SealBackSaid : Prop := sealBackRow.holds Try.pinned (OpenSpec.ofChange sealBackSpec)

/-- ITS FALSE NEIGHBOUR: 'it returns false'. Refute it at one input. -/
def sealBackWrong : ChangeSpec := { name := "sealBack", fn := fun _ => fun
  | [d1, d2, d3] => { results := [.lit (.bool false)], args := [d1, d2, d3] }
  | _ => none }
def SealBackWrongFalsely : Prop := sealBackRow.holds Try.pinned (OpenSpec.ofChange sealBackWrong)

/-- 'provisionlaw33.SealExact': WHATEVER THE INPUT: true; the input reads as it did. -/
def sealExactSpec : ChangeSpec := { name := "sealExact", fn := fun _ => fun
  | [d1, d2] => { results := [.lit (.bool true)], args := [d1, d2] }
  | _ => none }
def sealExactRow : OpenClaim := { program := "ytlgpmcpkddgpmaa", sum := "ad92648aeeeabaea01a0710c65c5bd0d32193ce247879ae9225d9c8746f2d040", func := "provision/provisionlaw33.SealExact", spec := "sealExact", apart := false }
def SealExactSaid : Prop := sealExactRow.holds Try.pinned (OpenSpec.ofChange sealExactSpec)

/-- ITS FALSE NEIGHBOUR: 'it returns false'. Refute it at one input. -/
def sealExactWrong : ChangeSpec := { name := "sealExact", fn := fun _ => fun
  | [d1, d2] => { results := [.lit (.bool false)], args := [d1, d2] }
  | _ => none }
def SealExactWrongFalsely : Prop := sealExactRow.holds Try.pinned (OpenSpec.ofChange sealExactWrong)

/-- 'provisionlaw33.SealWrong': WHATEVER THE INPUT: true; the input reads as it did. -/
def sealWrongSpec : ChangeSpec := { name := "sealWrong", fn := fun _ => fun
  | [d1, d2, d3, d4] => { results := [.lit (.bool true)], args := [d1, d2, d3, d4] }
  | _ => none }
def sealWrongRow : OpenClaim := { program := "ytlgpmcpkddgpmaa", sum := "ad92648aeeeabaea01a0710c65c5bd0d32193ce247879ae9225d9c8746f2d040", func := "provision/provisionlaw33.SealWrong", spec := "sealWrong", apart := false }
def SealWrongSaid : Prop := sealWrongRow.holds Try.pinned (OpenSpec.ofChange sealWrongSpec)

/-- ITS FALSE NEIGHBOUR: 'it returns false'. Refute it at one input. -/
def sealWrongWrong : ChangeSpec := { name := "sealWrong", fn := fun _ => fun
  | [d1, d2, d3, d4] => { results := [.lit (.bool false)], args := [d1, d2, d3, d4] }
  | _ => none }
def SealWrongWrongFalsely : Prop := sealWrongRow.holds Try.pinned (OpenSpec.ofChange sealWrongWrong)

/-- 'provisionlaw33.SealDamage': WHATEVER THE INPUT: true; the input reads as it did. -/
def sealDamageSpec : ChangeSpec := { name := "sealDamage", fn := fun _ => fun
  | [d1, d2, d3, d4] => { results := [.lit (.bool true)], args := [d1, d2, d3, d4] }
  | _ => none }
def sealDamageRow : OpenClaim := { program := "ytlgpmcpkddgpmaa", sum := "ad92648aeeeabaea01a0710c65c5bd0d32193ce247879ae9225d9c8746f2d040", func := "provision/provisionlaw33.SealDamage", spec := "sealDamage", apart := false }
def SealDamageSaid : Prop := sealDamageRow.holds Try.pinned (OpenSpec.ofChange sealDamageSpec)

/-- ITS FALSE NEIGHBOUR: 'it returns false'. Refute it at one input. -/
def sealDamageWrong : ChangeSpec := { name := "sealDamage", fn := fun _ => fun
  | [d1, d2, d3, d4] => { results := [.lit (.bool false)], args := [d1, d2, d3, d4] }
  | _ => none }
def SealDamageWrongFalsely : Prop := sealDamageRow.holds Try.pinned (OpenSpec.ofChange sealDamageWrong)

/-- 'provisionlaw33.SealRekeys': WHATEVER THE INPUT: true; the input reads as it did. -/
def sealRekeysSpec : ChangeSpec := { name := "sealRekeys", fn := fun _ => fun
  | [d1, d2, d3] => { results := [.lit (.bool true)], args := [d1, d2, d3] }
  | _ => none }
def sealRekeysRow : OpenClaim := { program := "ytlgpmcpkddgpmaa", sum := "ad92648aeeeabaea01a0710c65c5bd0d32193ce247879ae9225d9c8746f2d040", func := "provision/provisionlaw33.SealRekeys", spec := "sealRekeys", apart := false }
def SealRekeysSaid : Prop := sealRekeysRow.holds Try.pinned (OpenSpec.ofChange sealRekeysSpec)

/-- ITS FALSE NEIGHBOUR: 'it returns false'. Refute it at one input. -/
def sealRekeysWrong : ChangeSpec := { name := "sealRekeys", fn := fun _ => fun
  | [d1, d2, d3] => { results := [.lit (.bool false)], args := [d1, d2, d3] }
  | _ => none }
def SealRekeysWrongFalsely : Prop := sealRekeysRow.holds Try.pinned (OpenSpec.ofChange sealRekeysWrong)

/- THE SECOND FORM. 'bulk': how many values and letters a reading holds, each counted each time it is reached (what is shared counts as often as it is met; a slice's spare places count too). A statement '..UptoSaid' is the law's where the arguments, and the package variables that the reading takes, are together of bulk at most 1048576: NARROWER than '..Said'. Prove '..Said' where nothing that the law and all that it calls make is longer than what came in: it says more and counts as full. Else prove '..UptoSaid'. A law counts once. -/
mutual
def uptoBulk {H : Type} : DataW H → Nat
  | .lit (.string bytes) => bytes.length + 1
  | .lit _ => 1
  | .nil => 1
  | .ptr d => uptoBulk d + 1
  | .slice elems spare => uptoBulkAll elems + uptoBulkAll spare + 1
  | .agg parts => uptoBulkAll parts + 1
  | .iface _ d => uptoBulk d + 1
  | .map entries => uptoBulkEntries entries + 1
  | .held _ => 1
def uptoBulkAll {H : Type} : List (DataW H) → Nat
  | [] => 0
  | d :: r => uptoBulk d + uptoBulkAll r
def uptoBulkEntries {H : Type} : List (Lit × DataW H) → Nat
  | [] => 0
  | x :: r => uptoBulkEntry x + uptoBulkEntries r
def uptoBulkEntry {H : Type} : Lit × DataW H → Nat
  | (.string bytes, d) => bytes.length + uptoBulk d + 1
  | (_, d) => uptoBulk d + 1
 end
def uptoSmall : (H : Type) → List (DataW H) → Bool := fun _ ds => decide (uptoBulkAll ds ≤ 1048576)
def OpenSpec.upto (s : _root_.Go.ChangeSpec) : _root_.Go.OpenSpec := { _root_.Go.OpenSpec.ofChange s with cond := some uptoSmall }

/-- 'provisionlaw03.ChecksumSums', WHERE WHAT IT READS IS OF BULK AT MOST 1048576: true; the input reads as it did. -/
def checksumSumsUptoRow : OpenClaim := { program := "ytlgpmcpkddgpmaa", sum := "ad92648aeeeabaea01a0710c65c5bd0d32193ce247879ae9225d9c8746f2d040", func := "provision/provisionlaw03.ChecksumSums", spec := "checksumSums", apart := false, narrowed := true }
def ChecksumSumsUptoSaid : Prop := checksumSumsUptoRow.holds Try.pinned (OpenSpec.upto checksumSumsSpec)

/-- 'provisionlaw03.ChecksumParts', WHERE WHAT IT READS IS OF BULK AT MOST 1048576: true; the input reads as it did. -/
def checksumPartsUptoRow : OpenClaim := { program := "ytlgpmcpkddgpmaa", sum := "ad92648aeeeabaea01a0710c65c5bd0d32193ce247879ae9225d9c8746f2d040", func := "provision/provisionlaw03.ChecksumParts", spec := "checksumParts", apart := false, narrowed := true }
def ChecksumPartsUptoSaid : Prop := checksumPartsUptoRow.holds Try.pinned (OpenSpec.upto checksumPartsSpec)

/-- 'provisionlaw03.ChecksumAppends', WHERE WHAT IT READS IS OF BULK AT MOST 1048576: true; the input reads as it did. -/
def checksumAppendsUptoRow : OpenClaim := { program := "ytlgpmcpkddgpmaa", sum := "ad92648aeeeabaea01a0710c65c5bd0d32193ce247879ae9225d9c8746f2d040", func := "provision/provisionlaw03.ChecksumAppends", spec := "checksumAppends", apart := false, narrowed := true }
def ChecksumAppendsUptoSaid : Prop := checksumAppendsUptoRow.holds Try.pinned (OpenSpec.upto checksumAppendsSpec)

/-- 'provisionlaw03.ChecksumVerifies', WHERE WHAT IT READS IS OF BULK AT MOST 1048576: true; the input reads as it did. -/
def checksumVerifiesUptoRow : OpenClaim := { program := "ytlgpmcpkddgpmaa", sum := "ad92648aeeeabaea01a0710c65c5bd0d32193ce247879ae9225d9c8746f2d040", func := "provision/provisionlaw03.ChecksumVerifies", spec := "checksumVerifies", apart := false, narrowed := true }
def ChecksumVerifiesUptoSaid : Prop := checksumVerifiesUptoRow.holds Try.pinned (OpenSpec.upto checksumVerifiesSpec)

/-- 'provisionlaw03.ChecksumBursts', WHERE WHAT IT READS IS OF BULK AT MOST 1048576: true; the input reads as it did. -/
def checksumBurstsUptoRow : OpenClaim := { program := "ytlgpmcpkddgpmaa", sum := "ad92648aeeeabaea01a0710c65c5bd0d32193ce247879ae9225d9c8746f2d040", func := "provision/provisionlaw03.ChecksumBursts", spec := "checksumBursts", apart := false, narrowed := true }
def ChecksumBurstsUptoSaid : Prop := checksumBurstsUptoRow.holds Try.pinned (OpenSpec.upto checksumBurstsSpec)

/-- 'provisionlaw33.SealSeals', WHERE WHAT IT READS IS OF BULK AT MOST 1048576: true; the input reads as it did. -/
def sealSealsUptoRow : OpenClaim := { program := "ytlgpmcpkddgpmaa", sum := "ad92648aeeeabaea01a0710c65c5bd0d32193ce247879ae9225d9c8746f2d040", func := "provision/provisionlaw33.SealSeals", spec := "sealSeals", apart := false, narrowed := true }
def SealSealsUptoSaid : Prop := sealSealsUptoRow.holds Try.pinned (OpenSpec.upto sealSealsSpec)

/-- 'provisionlaw33.SealOpens', WHERE WHAT IT READS IS OF BULK AT MOST 1048576: true; the input reads as it did. -/
def sealOpensUptoRow : OpenClaim := { program := "ytlgpmcpkddgpmaa", sum := "ad92648aeeeabaea01a0710c65c5bd0d32193ce247879ae9225d9c8746f2d040", func := "provision/provisionlaw33.SealOpens", spec := "sealOpens", apart := false, narrowed := true }
def SealOpensUptoSaid : Prop := sealOpensUptoRow.holds Try.pinned (OpenSpec.upto sealOpensSpec)

/-- 'provisionlaw33.SealBack', WHERE WHAT IT READS IS OF BULK AT MOST 1048576: true; the input reads as it did. -/
def sealBackUptoRow : OpenClaim := { program := "ytlgpmcpkddgpmaa", sum := "ad92648aeeeabaea01a0710c65c5bd0d32193ce247879ae9225d9c8746f2d040", func := "provision/provisionlaw33.SealBack", spec := "sealBack", apart := false, narrowed := true }
def SealBackUptoSaid : Prop := sealBackUptoRow.holds Try.pinned (OpenSpec.upto sealBackSpec)

/-- 'provisionlaw33.SealExact', WHERE WHAT IT READS IS OF BULK AT MOST 1048576: true; the input reads as it did. -/
def sealExactUptoRow : OpenClaim := { program := "ytlgpmcpkddgpmaa", sum := "ad92648aeeeabaea01a0710c65c5bd0d32193ce247879ae9225d9c8746f2d040", func := "provision/provisionlaw33.SealExact", spec := "sealExact", apart := false, narrowed := true }
def SealExactUptoSaid : Prop := sealExactUptoRow.holds Try.pinned (OpenSpec.upto sealExactSpec)

/-- 'provisionlaw33.SealWrong', WHERE WHAT IT READS IS OF BULK AT MOST 1048576: true; the input reads as it did. -/
def sealWrongUptoRow : OpenClaim := { program := "ytlgpmcpkddgpmaa", sum := "ad92648aeeeabaea01a0710c65c5bd0d32193ce247879ae9225d9c8746f2d040", func := "provision/provisionlaw33.SealWrong", spec := "sealWrong", apart := false, narrowed := true }
def SealWrongUptoSaid : Prop := sealWrongUptoRow.holds Try.pinned (OpenSpec.upto sealWrongSpec)

/-- 'provisionlaw33.SealDamage', WHERE WHAT IT READS IS OF BULK AT MOST 1048576: true; the input reads as it did. -/
def sealDamageUptoRow : OpenClaim := { program := "ytlgpmcpkddgpmaa", sum := "ad92648aeeeabaea01a0710c65c5bd0d32193ce247879ae9225d9c8746f2d040", func := "provision/provisionlaw33.SealDamage", spec := "sealDamage", apart := false, narrowed := true }
def SealDamageUptoSaid : Prop := sealDamageUptoRow.holds Try.pinned (OpenSpec.upto sealDamageSpec)

/-- 'provisionlaw33.SealRekeys', WHERE WHAT IT READS IS OF BULK AT MOST 1048576: true; the input reads as it did. -/
def sealRekeysUptoRow : OpenClaim := { program := "ytlgpmcpkddgpmaa", sum := "ad92648aeeeabaea01a0710c65c5bd0d32193ce247879ae9225d9c8746f2d040", func := "provision/provisionlaw33.SealRekeys", spec := "sealRekeys", apart := false, narrowed := true }
def SealRekeysUptoSaid : Prop := sealRekeysUptoRow.holds Try.pinned (OpenSpec.upto sealRekeysSpec)

end Rows
end Go.Proofs.Ytlgpmcpkddgpmaa
