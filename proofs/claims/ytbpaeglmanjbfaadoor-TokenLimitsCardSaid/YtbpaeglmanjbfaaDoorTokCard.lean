/- What the rows of this seat list, as the walks ask for it; a world for the witnesses. -/
import Derived.Test.YtbpaeglmanjbfaaDoorCards
import Derived.Test.YtbpaeglmanjbfaaDoorTie
import Derived.Test.YtbpaeglmanjbfaaDoorTokAwake
import Derived.ProofKit
import Derived.OpenShut
import Derived.ShutString
import Derived.ChangeOld
import Derived.Below
import Derived.Deep.DeepHandedRow
import Derived.Lib.LaidU8
import Derived.MakeChecks
namespace Go.Proofs.YtbpaeglmanjbfaaDoor
open Go.ChangeShapes Go.WideShapes Go.ChangeAt Go.RowKit
namespace Card

theorem own : ownKnob Tryd.prog.godebug = none := by kernel_rfl
theorem first_eq : Go.Pinned.utf8First = Lib.firstData := by kernel_rfl
theorem accept_eq : (Rows.laid_unicode_utf8_acceptRanges : DataW Unit) = Lib.acceptData := by kernel_rfl
theorem tabs_of {W : World} (h : laidMetH Tryd.prog Rows.tokenScanRow.laid W) : Lib.Utf8Tabs 1 2 W := by
  have hL : laidMet Tryd.prog Rows.tokenScanRow.laid W := by
    have e := Go.MakeChecks.laidMetH_plain Tryd.prog Rows.tokenScanRow.laid W (by kernel_rfl)
    rwa [e] at h
  have r1 : Lib.VarReads Tryd.prog W "unicode/utf8.first" Lib.firstData := by
    rw [← first_eq]; exact Lib.laidMet.reads hL (.tail _ (.head _))
  have r2 : Lib.VarReads Tryd.prog W "unicode/utf8.acceptRanges" Lib.acceptData := by
    rw [← accept_eq]; exact Lib.laidMet.reads hL (.head _)
  exact utf8Tabs_of_reads (ρ := Tryd.lays260_ren) Tryd.lays260 ⟨by kernel_rfl, by kernel_rfl, by kernel_rfl, by kernel_rfl, by kernel_rfl, by kernel_rfl, by kernel_rfl⟩ r1 r2

def u8s (l : List Int) : Array Value := (l.map fun z => Value.int .u8 z).toArray
def setTab (h : Array Obj) (g : Nat) (cs : Array Value) : Array Obj := h.modify g fun
  | .cells _ t frozen => .cells cs t frozen
  | o => o
/-- A world for the witness: the settled one, the tables as their initialisers lay them. -/
noncomputable def laidWorld (os : Os) (args : Array Value) : World :=
  { World.holding Tryd.prog os ⟨#[], args, []⟩ with
    heap := setTab (setTab (World.holding Tryd.prog os ⟨#[], args, []⟩).heap 1 (u8s Lib.firstTab)) 2 (u8s [128, 191, 160, 191, 128, 159, 144, 191, 128, 143, 0, 0, 0, 0, 0, 0, 0, 0, 0, 0, 0, 0, 0, 0, 0, 0, 0, 0, 0, 0, 0, 0]) }
theorem laid_met1 (os : Os) : laidMet Tryd.prog Rows.tokenScanRow.laid ((laidWorld os #[.string ByteArray.empty]).forCall (fun _ _ => 0) ⟨#[], #[.string ByteArray.empty], []⟩).memory :=
  laidMet_of_run' 8 (by kernel_rfl) (by kernel_rfl)
end Card
end Go.Proofs.YtbpaeglmanjbfaaDoor
