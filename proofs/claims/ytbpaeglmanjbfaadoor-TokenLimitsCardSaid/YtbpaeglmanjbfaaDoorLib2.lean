/- More small laws over any program: make of bytes. -/
import Derived.Test.YtbpaeglmanjbfaaDoorLib
namespace Go.Proofs.YtbpaeglmanjbfaaDoor
open Go.RowKit
/-- 'make([]byte, n)'. -/
theorem make_bytes {P : Program} (w : World) (n : Nat) (t e : TypeId) (ht : P.underlying t = some (.slice e)) (hi : (P.info? e).map (fun i => (i.zero, i.size, i.bytes)) = some (some (.int .u8 0), 1, 1)) (h : n < 1099511627776) :
    ∃ W1, (Instr.makeSlice t (.int .i64 (n : Int)) (.int .i64 (n : Int))).run P w = .ok (.slice (some ⟨w.heap.size, 0, none⟩) n n) W1 ∧ BytesAt W1 w.heap.size e (List.replicate n 0) ∧ Below w.heap.size w W1 ∧ w.heap.size < W1.heap.size := by
  obtain ⟨i0, hi0, hz0, hz1, hz2⟩ := info_parts hi
  have hr := run_make (P := P) w t e i0 (.int .u8 0) ht hi0 hz0 .i64 .i64 n n (by omega) (Int.le_refl _) (by rw [hz2]; omega) (by omega)
  simp only [Int.toNat_natCast, hz1, Nat.mul_one] at hr
  exact ⟨_, hr, BytesAt.made w e n, (Below.refl _ w).alloc (Nat.le_refl _) _, by simp⟩
end Go.Proofs.YtbpaeglmanjbfaaDoor
