/- A builder of a function's own: its contracts over lists of bytes. -/
import Derived.Test.YtbpaeglmanjbfaaDoorTokFmt1
import Derived.Test.YtbpaeglmanjbfaaDoorTokRead
namespace Go.Proofs.YtbpaeglmanjbfaaDoor
open Go.RowKit

/-- The builder in the first block behind W's, and its bytes. -/
structure Bld (W : World) (l : List UInt8) (w : World) : Prop where
  out : Lib.IsBuilderF 60 5 W.heap.size W.heap.size (Lib.byteCells l) w
theorem bld_below0 {T e : TypeId} {B b : Nat} {p : Value} {bs : List Value} {W W' : World} (h : Lib.BuilderAtF T e B b p bs W) (hb : Below W.heap.size W W') : Lib.BuilderAtF T e B b p bs W' := by
  have hlt := h.lt
  obtain ⟨hB, v, hv, hown, hne⟩ := h
  exact ⟨hB, v, (hb.block b hlt).trans hv, hown.kept (row := none) ⟨hb.os, hb.tape, hb.output, hb.size, fun k hk _ => hb.block k hk⟩ (Classical.em _), hne⟩
namespace Bld
variable {W w : World} {l : List UInt8}
theorem fresh (W : World) : Bld W [] (W.alloc (.cells #[.pointer none, .slice none 0 0] 60)) := ⟨Lib.IsBuilderF.of (Lib.fresh_isBuilder _ _ W)⟩
theorem below {w' : World} (h : Bld W l w) (b : Below w.heap.size w w') : Bld W l w' := ⟨h.out.elim (fun x => .inl (bld_below0 x b)) (fun x => .inr (bld_below0 x b))⟩
theorem size (h : Bld W l w) : W.heap.size < w.heap.size := h.out.elim (fun x => x.lt) (fun x => x.lt)
theorem byte (h : Bld W l w) (hl : l.length ≤ 1000000000) (c : UInt8) :
    Calls Tryd.prog 38 #[.pointer (some ⟨W.heap.size, 0, none⟩), .int .u8 c.toNat] w fun e w' => e = .returned .nilIface ∧ Bld W (l ++ [c]) w' ∧ Below W.heap.size w w' ∧ Lib.OthersKept 5 (some W.heap.size) w w' := by
  have hs := h.size
  refine (Tryd.Builder_WriteByte_k _ _ _ c.toNat w h.out (by rw [Lib.byteCells_length]; omega) (by omega)).mono fun e w' hh => ⟨hh.1, ⟨.inr ?_⟩, hh.2.2⟩
  have := hh.2.1
  simpa [Lib.byteCells] using this
theorem str (h : Bld W l w) (hl : l.length ≤ 1000000000) (s : ByteArray) (hs2 : s.size ≤ 1000000000) :
    Calls Tryd.prog 39 #[.pointer (some ⟨W.heap.size, 0, none⟩), .string s] w fun e w' => e = .returned (.tuple #[.int .i64 s.size, .nilIface]) ∧ Bld W (l ++ s.data.toList) w' ∧ Below W.heap.size w w' ∧ Lib.OthersKept 5 (some W.heap.size) w w' := by
  have hs := h.size
  refine (Tryd.Builder_WriteString_k _ _ _ s w h.out (by rw [Lib.byteCells_length]; omega) (by omega)).mono fun e w' hh => ⟨hh.1, ⟨.inr ?_⟩, hh.2.2⟩
  have := hh.2.1
  simpa [Lib.byteCells, Lib.strCells] using this
theorem string (h : Bld W l w) :
    Calls Tryd.prog 40 #[.pointer (some ⟨W.heap.size, 0, none⟩)] w fun e w' => e = .returned (.string ⟨l.toArray⟩) ∧ Below W.heap.size w w' := by
  have hs := h.size
  exact (Tryd.Builder_String_any_k _ _ _ w h.out (by omega)).mono fun e w' hh => ⟨hh.1, hh.2.2.1⟩
end Bld
theorem Tri.others {w w' : World} {b : Option Nat} {g : Nat} {T e : TypeId} {x y z : Value} (h : Tri w g T x y z) (hk : Lib.OthersKept e b w w') (hb : some g ≠ b) (hT : T ≠ e) : Tri w' g T x y z :=
  hk g _ h hb (fun c fz he => by injection he with _ h2 _; exact hT h2)
end Go.Proofs.YtbpaeglmanjbfaaDoor
