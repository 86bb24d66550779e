/- The walks of provisionref02: hex, point, Encode. -/
import Derived.Test.YtiaohbikaofbdaaDoorStrRef2
import Derived.Test.YtiaohbikaofbdaaDoorStrUnq2
namespace Go.Proofs.YtiaohbikaofbdaaDoor
open Go.RowKit

set_option maxHeartbeats 400000 in
theorem refHex_any (b : UInt8) (w : World) :
    Calls Tryd.prog 67 #[.int .u8 b.toNat] w fun e w' => e = .returned (.int .i64 (Str.hexv b)) ∧ w = w' := by
  have hb := b.toNat_lt
  have Hv := kept (show Str.hexv b = if 48 ≤ (b.toNat : Int) ∧ (b.toNat : Int) ≤ 57 then (b.toNat : Int) - 48 else if 97 ≤ (b.toNat : Int) ∧ (b.toNat : Int) ≤ 102 then (b.toNat : Int) - 87 else -1 by
    unfold Str.hexv
    repeat' split
    all_goals omega)
  obtain ⟨u, hu⟩ : ∃ u : Int, (b.toNat : Int) = u := ⟨_, rfl⟩
  rw [hu] at Hv ⊢
  have h0 : 0 ≤ u := by omega
  have h1 : u < 256 := by omega
  clear hu hb
  by_cases a1 : 48 ≤ u
  · by_cases a2 : u ≤ 57
    · go_enter Tryd.func67, Tryd.ntmps67
      go_wp2
      go_ret
      exact ⟨ret_int (by rw [Hv.out, if_pos ⟨a1, a2⟩]), rfl⟩
    · by_cases a3 : 97 ≤ u
      · by_cases a4 : u ≤ 102
        · go_enter Tryd.func67, Tryd.ntmps67
          go_wp2
          go_ret
          exact ⟨ret_int (by rw [Hv.out, if_neg (by omega), if_pos ⟨a3, a4⟩]; omega), rfl⟩
        · go_enter Tryd.func67, Tryd.ntmps67
          go_wp2
          go_ret
          exact ⟨ret_int (by rw [Hv.out, if_neg (by omega), if_neg (by omega)]), rfl⟩
      · go_enter Tryd.func67, Tryd.ntmps67
        go_wp2
        go_ret
        exact ⟨ret_int (by rw [Hv.out, if_neg (by omega), if_neg (by omega)]), rfl⟩
  · go_enter Tryd.func67, Tryd.ntmps67
    go_wp2
    go_ret
    exact ⟨ret_int (by rw [Hv.out, if_neg (by omega), if_neg (by omega)]), rfl⟩

theorem and63i (x : Int) (h0 : 0 ≤ x) (h1 : x < 16777216) : bits .and .i64 x 63 = x % 64 := by
  obtain ⟨X, rfl⟩ := Int.eq_ofNat_of_zero_le h0
  have e : X &&& 63 = X % 64 := by rw [show (63 : Nat) = 2 ^ 6 - 1 from rfl, Nat.and_two_pow_sub_one_eq_mod]
  have h2 : (BitVec.ofInt 64 ((X : Nat) : Int) &&& BitVec.ofInt 64 (63 : Int)).toNat = X % 64 := by
    rw [BitVec.toNat_and, BitVec.ofInt_natCast, show (63 : Int) = ((63 : Nat) : Int) from rfl, BitVec.ofInt_natCast, BitVec.toNat_ofNat, BitVec.toNat_ofNat, Nat.mod_eq_of_lt (by omega), Nat.mod_eq_of_lt (by omega), e]
  show IntKind.i64.wrap ((BitVec.ofInt 64 ((X : Nat) : Int) &&& BitVec.ofInt 64 (63 : Int)).toNat : Int) = _
  rw [h2, IntKind.wrap_i64]
  omega
theorem or128 (y : Int) (h0 : 0 ≤ y) (h1 : y < 64) : bits .or .i64 128 y = 128 + y := or_int 2 y 64 6 (by decide) (by omega) (by omega) h0 h1 (by omega)
theorem or192 (y : Int) (h0 : 0 ≤ y) (h1 : y < 64) : bits .or .i64 192 y = 192 + y := or_int 3 y 64 6 (by decide) (by omega) (by omega) h0 h1 (by omega)
theorem or224 (y : Int) (h0 : 0 ≤ y) (h1 : y < 16) : bits .or .i64 224 y = 224 + y := or_int 14 y 16 4 (by decide) (by omega) (by omega) h0 h1 (by omega)
theorem or240 (y : Int) (h0 : 0 ≤ y) (h1 : y < 16) : bits .or .i64 240 y = 240 + y := or_int 15 y 16 4 (by decide) (by omega) (by omega) h0 h1 (by omega)
def zB (l : List Int) : List UInt8 := l.map fun x => x.toNat.toUInt8
theorem zB_cells : ∀ l : List Int, (∀ x ∈ l, 0 ≤ x ∧ x < 256) → bcells (zB l) = l.map fun x => Value.int .u8 x
  | [], _ => rfl
  | x :: l, h => by
    have h1 := h x (by simp)
    have h2 := zB_cells l (fun y hy => h y (by simp [hy]))
    unfold zB bcells at *
    rw [List.map_cons, List.map_cons, h2, List.map_cons]
    rw [show (x.toNat.toUInt8).toNat = x.toNat % 256 from rfl]
    congr 2; omega
theorem some_bytes (w : World) (l : List Int) (n : Nat) (hn : l.length = n) (h : ∀ x ∈ l, 0 ≤ x ∧ x < 256) :
    (convert 34 9 (.slice (some ⟨w.heap.size, 0, none⟩) n n)).run Tryd.prog (w.alloc (.cells (l.map fun x => Value.int .u8 x).toArray 5)) = .ok (.string ⟨(zB l).toArray⟩) (w.alloc (.cells (l.map fun x => Value.int .u8 x).toArray 5)) := by
  rw [← zB_cells l h]
  exact (BytesAt.lit w 5 (zB l)).conv_of (P := Tryd.prog) 34 9 n n (by simp [zB, hn]) Tryd.underlying34 Tryd.underlying5 Tryd.underlying9

set_option maxHeartbeats 400000 in
theorem refEncode_any (c : Nat) (w : World) (hc : Utf8.valid c = true) :
    Calls Tryd.prog 57 #[.int .i64 c] w fun e w' => e = .returned (.string ⟨(Str.enc c).toArray⟩) ∧ Below w.heap.size w w' := by
  have hv : (c : Int) < 55296 ∨ (57343 < (c : Int) ∧ (c : Int) ≤ 1114111) := by
    unfold Utf8.valid at hc; simp at hc; omega
  have He := kept (show Str.enc c = zB (Lib.encodeRuneZ (c : Int)) from rfl)
  obtain ⟨u, hu⟩ : ∃ u : Int, (c : Int) = u := ⟨_, rfl⟩
  have h0 : 0 ≤ u := by omega
  rw [hu] at He hv ⊢
  clear hu hc
  by_cases h1 : u < 128
  · have Hz := kept (Lib.encodeRuneZ_one (r := u) h0 (by omega))
    have hob := some_bytes w [u] 1 rfl (by simp; omega)
    have hw8 : u < 256 := by omega
    go_enter Tryd.func57, Tryd.ntmps57
    simp only [List.map_cons, List.map_nil] at hob
    go_wp2
    go_ret
    exact ⟨by rw [He.out, Hz.out]; rfl, ball w _⟩
  · by_cases h2 : u < 2048
    · have Hz := kept (Lib.encodeRuneZ_two (r := u) (by omega) (by omega))
      have a1 := and63i u h0 (by omega)
      have o1 := or192 (u / 64) (by omega) (by omega)
      have o2 := or128 (u % 64) (by omega) (by omega)
      have hob := some_bytes w [192 + u / 64, 128 + u % 64] 2 rfl (by simp; omega)
      simp only [List.map_cons, List.map_nil] at hob
      go_enter Tryd.func57, Tryd.ntmps57
      go_wp2
      go_ret
      exact ⟨by rw [He.out, Hz.out]; rfl, ball w _⟩
    · by_cases h3 : u < 65536
      · have Hz := kept (Lib.encodeRuneZ_three (r := u) (by omega))
        have a1 := and63i u h0 (by omega)
        have a2 := and63i (u / 64) (by omega) (by omega)
        have o1 := or224 (u / 4096) (by omega) (by omega)
        have o2 := or128 (u / 64 % 64) (by omega) (by omega)
        have o3 := or128 (u % 64) (by omega) (by omega)
        have hob := some_bytes w [224 + u / 4096, 128 + u / 64 % 64, 128 + u % 64] 3 rfl (by simp; omega)
        simp only [List.map_cons, List.map_nil] at hob
        go_enter Tryd.func57, Tryd.ntmps57
        go_wp2
        go_ret
        exact ⟨by rw [He.out, Hz.out]; rfl, ball w _⟩
      · have Hz := kept (Lib.encodeRuneZ_four (r := u) (by omega) (by omega))
        have a1 := and63i u h0 (by omega)
        have a2 := and63i (u / 64) (by omega) (by omega)
        have a3 := and63i (u / 4096) (by omega) (by omega)
        have o1 := or240 (u / 262144) (by omega) (by omega)
        have o2 := or128 (u / 4096 % 64) (by omega) (by omega)
        have o3 := or128 (u / 64 % 64) (by omega) (by omega)
        have o4 := or128 (u % 64) (by omega) (by omega)
        have hob := some_bytes w [240 + u / 262144, 128 + u / 4096 % 64, 128 + u / 64 % 64, 128 + u % 64] 4 rfl (by simp; omega)
        simp only [List.map_cons, List.map_nil] at hob
        go_enter Tryd.func57, Tryd.ntmps57
        go_wp2
        go_ret
        exact ⟨by rw [He.out, Hz.out]; rfl, ball w _⟩
end Go.Proofs.YtiaohbikaofbdaaDoor
