/- The walks of the packages seal and provisionref33: the words. -/
import Derived.Test.YtlgpmcpkddgpmaaSealMath
import Derived.Test.YtlgpmcpkddgpmaaCrcWalks
import Derived.Test.YtlgpmcpkddgpmaaLib2
import Derived.Deep.RegionWith
import Derived.BigRegion
namespace Go.Proofs.Ytlgpmcpkddgpmaa
open Go.RowKit

set_option maxHeartbeats 400000 in
theorem mix_any (x : Int) (w : World) :
    Calls Try.prog 52 #[.int .u64 x] w fun e w' => e = .returned (.int .u64 (Seal.mix x)) ∧ w = w' := by
  go_enter Try.func52, Try.ntmps52
  go_wp2
  go_ret
  exact ⟨rfl, rfl⟩
set_option maxHeartbeats 400000 in
theorem refMix_any (x : Int) (w : World) :
    Calls Try.prog 51 #[.int .u64 x] w fun e w' => e = .returned (.int .u64 (Seal.mix x)) ∧ w = w' := by
  go_enter Try.func51, Try.ntmps51
  go_wp2
  go_ret
  exact ⟨rfl, rfl⟩

theorem take_next (s : ByteArray) (k : Nat) (h : k < s.size) : s.data.toList.take (k + 1) = s.data.toList.take k ++ [s[k]] := by
  rw [List.take_succ_eq_append_getElem (by simpa using h)]; rfl

set_option maxHeartbeats 400000 in
theorem fold_any (h : Int) (s : ByteArray) (w : World) (hs : s.size ≤ 1000000000) :
    Calls Try.prog 53 #[.int .u64 h, .string s] w fun e w' => e = .returned (.int .u64 (Seal.fold h s.data.toList)) ∧ w = w' := by
  go_enter Try.func53, Try.ntmps53
  go_wp2
  go_loop [0, 8] (fun x i => ∃ k : Nat, k ≤ s.size ∧ i = .int .i64 k ∧ x = .int .u64 (Seal.fold h (s.data.toList.take k))) (fun _ i => s.size - (intOf i).toNat)
  case atStart => exact ⟨0, by omega, rfl, rfl⟩
  case round =>
    obtain ⟨k, hk, rfl, rfl⟩ := hrel
    by_cases hlt : k < s.size
    · have Hn := kept (show Seal.fold h (s.data.toList.take (k + 1)) = Seal.fold1 (Seal.fold h (s.data.toList.take k)) s[k] by rw [take_next s k hlt, Seal.fold_snoc])
      generalize hy : Seal.fold h (s.data.toList.take k) = y at *
      have Hy := kept hy; clear hy
      go_wp2_with (go_at_call 52; refine (mix_any _ _).mono ?_; rintro e w' ⟨rfl, rfl⟩)
      go_round
      case rel => exact ⟨k + 1, by omega, by go_num, by rw [Hn.out]; rfl⟩
      case measure => simp [intOf]; omega
    · have Hn := kept (show Seal.fold h (s.data.toList.take k) = Seal.fold h s.data.toList by rw [List.take_of_length_le (by simp; omega)])
      generalize hy : Seal.fold h (s.data.toList.take k) = y at *
      go_wp2
      go_ret
      exact ⟨ret_int (by rw [Hn.out]), rfl⟩

set_option maxHeartbeats 400000 in
theorem seed_any (s : ByteArray) (n : Int) (w : World) (hs : s.size ≤ 1000000000) :
    Calls Try.prog 44 #[.string s, .int .u64 n] w fun e w' => e = .returned (.int .u64 (Seal.seed s.data.toList n)) ∧ w = w' := by
  have Hl := kept (show ((s.data.toList.length : Nat) : Int) = s.size by simp)
  go_enter Try.func44, Try.ntmps44
  go_wp2_with fail
  refine (mix_any _ _).mono ?_; rintro e w' ⟨rfl, rfl⟩
  go_wp2_with fail
  refine (fold_any _ _ _ (by omega)).mono ?_; rintro e w' ⟨rfl, rfl⟩
  go_wp2_with fail
  refine (mix_any _ _).mono ?_; rintro e w' ⟨rfl, rfl⟩
  go_wp2
  go_ret
  exact ⟨ret_int (by rw [Seal.seed, Hl.out]), rfl⟩
set_option maxHeartbeats 400000 in
theorem tag_any (n : Int) (s : ByteArray) (w : World) (hs : s.size ≤ 1000000000) :
    Calls Try.prog 46 #[.int .u64 n, .string s] w fun e w' => e = .returned (.int .u64 (Seal.tag n s.data.toList)) ∧ w = w' := by
  go_enter Try.func46, Try.ntmps46
  go_wp2_with fail
  refine (mix_any _ _).mono ?_; rintro e w' ⟨rfl, rfl⟩
  go_wp2_with fail
  refine (fold_any _ _ _ (by omega)).mono ?_; rintro e w' ⟨rfl, rfl⟩
  go_wp2
  go_ret
  exact ⟨rfl, rfl⟩
set_option maxHeartbeats 400000 in
theorem refTag_any (n : Int) (s : ByteArray) (w : World) (hs : s.size ≤ 1000000000) :
    Calls Try.prog 37 #[.int .u64 n, .string s] w fun e w' => e = .returned (.int .u64 (Seal.tag n s.data.toList)) ∧ w = w' := by
  go_enter Try.func37, Try.ntmps37
  go_wp2_with fail
  refine (refMix_any _ _).mono ?_; rintro e w' ⟨rfl, rfl⟩
  have Hm := kept (show Seal.tag n s.data.toList = Seal.fold (Seal.mix (bits .xor .u64 n 18446744073709551615)) s.data.toList from rfl)
  generalize hh : Seal.mix (bits .xor .u64 n 18446744073709551615) = h at *
  have Hh := kept hh; clear hh
  go_wp2_with fail
  go_loop [5, 6] (fun x i => ∃ k : Nat, k ≤ s.size ∧ i = .int .i64 k ∧ x = .int .u64 (Seal.fold h (s.data.toList.take k))) (fun _ i => s.size - (intOf i).toNat)
  case atStart => exact ⟨0, by omega, rfl, rfl⟩
  case round =>
    obtain ⟨k, hk, rfl, rfl⟩ := hrel
    by_cases hlt : k < s.size
    · have Hn := kept (show Seal.fold h (s.data.toList.take (k + 1)) = Seal.fold1 (Seal.fold h (s.data.toList.take k)) s[k] by rw [take_next s k hlt, Seal.fold_snoc])
      generalize hy : Seal.fold h (s.data.toList.take k) = y at *
      have Hy := kept hy; clear hy
      go_wp2_with (go_at_call 51; refine (refMix_any _ _).mono ?_; rintro e w' ⟨rfl, rfl⟩)
      go_round
      case rel => exact ⟨k + 1, by omega, by go_num, by rw [Hn.out]; rfl⟩
      case measure => simp [intOf]; omega
    · have Hn := kept (show Seal.fold h (s.data.toList.take k) = Seal.fold h s.data.toList by rw [List.take_of_length_le (by simp; omega)])
      generalize hy : Seal.fold h (s.data.toList.take k) = y at *
      go_wp2
      go_ret
      exact ⟨ret_int (by rw [Hm.out, Hn.out]), rfl⟩
set_option maxHeartbeats 400000 in
theorem refSeed_any (s : ByteArray) (n : Int) (w : World) (hs : s.size ≤ 1000000000) :
    Calls Try.prog 36 #[.string s, .int .u64 n] w fun e w' => e = .returned (.int .u64 (Seal.seed s.data.toList n)) ∧ w = w' := by
  have Hl := kept (show ((s.data.toList.length : Nat) : Int) = s.size by simp)
  go_enter Try.func36, Try.ntmps36
  go_wp2_with fail
  refine (refMix_any _ _).mono ?_; rintro e w' ⟨rfl, rfl⟩
  have Hm := kept (show Seal.seed s.data.toList n = Seal.mix (bits .xor .u64 (Seal.fold (Seal.mix s.size) s.data.toList) n) by rw [Seal.seed, Hl.out])
  generalize hh : Seal.mix s.size = h at *
  have Hh := kept hh; clear hh
  go_wp2_with fail
  go_loop [5, 6] (fun x i => ∃ k : Nat, k ≤ s.size ∧ i = .int .i64 k ∧ x = .int .u64 (Seal.fold h (s.data.toList.take k))) (fun _ i => s.size - (intOf i).toNat)
  case atStart => exact ⟨0, by omega, rfl, rfl⟩
  case round =>
    obtain ⟨k, hk, rfl, rfl⟩ := hrel
    by_cases hlt : k < s.size
    · have Hn := kept (show Seal.fold h (s.data.toList.take (k + 1)) = Seal.fold1 (Seal.fold h (s.data.toList.take k)) s[k] by rw [take_next s k hlt, Seal.fold_snoc])
      generalize hy : Seal.fold h (s.data.toList.take k) = y at *
      have Hy := kept hy; clear hy
      go_wp2_with (go_at_call 51; refine (refMix_any _ _).mono ?_; rintro e w' ⟨rfl, rfl⟩)
      go_round
      case rel => exact ⟨k + 1, by omega, by go_num, by rw [Hn.out]; rfl⟩
      case measure => simp [intOf]; omega
    · have Hn := kept (show Seal.fold h (s.data.toList.take k) = Seal.fold h s.data.toList by rw [List.take_of_length_le (by simp; omega)])
      generalize hy : Seal.fold h (s.data.toList.take k) = y at *
      go_wp2_with (go_at_call 51; refine (refMix_any _ _).mono ?_; rintro e w' ⟨rfl, rfl⟩)
      go_ret
      exact ⟨ret_int (by rw [Hm.out, Hn.out]), rfl⟩
end Go.Proofs.Ytlgpmcpkddgpmaa
