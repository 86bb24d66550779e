/- Sum, Append and Verify of the packages checksum and provisionref03. -/
import Derived.Test.YtlgpmcpkddgpmaaCrcWalks
import Derived.Deep.RegionWith
namespace Go.Proofs.Ytlgpmcpkddgpmaa
open Go.RowKit
theorem ver_short (l : List UInt8) (h : l.length < 4) : Crc.ver l = ([], 40) := by unfold Crc.ver; rw [if_pos h]
theorem ver_good (l : List UInt8) (n : Nat) (h : l.length = n + 4) (hd : l.drop n = Crc.four (Crc.upd 0 (l.take n))) : Crc.ver l = (l.take n, 0) := by
  unfold Crc.ver; rw [if_neg (by omega), show l.length - 4 = n by omega, if_pos hd]
theorem ver_bad (l : List UInt8) (n : Nat) (h : l.length = n + 4) (hd : ¬ l.drop n = Crc.four (Crc.upd 0 (l.take n))) : Crc.ver l = ([], 20) := by
  unfold Crc.ver; rw [if_neg (by omega), show l.length - 4 = n by omega, if_neg hd]

set_option maxHeartbeats 400000 in
theorem sum_any (s : ByteArray) (w : World) (hs : s.size ≤ 1000000000) :
    Calls Try.prog 16 #[.string s] w fun e w' => e = .returned (.int .u32 (Crc.upd 0 s.data.toList : Nat)) ∧ w = w' := by
  go_enter Try.func16, Try.ntmps16
  go_wp2_with (go_at_call 18; refine (upd_any 0 _ _ (by omega) (by omega) (by omega)).mono ?_; rintro e w' ⟨rfl, rfl⟩)
  go_ret
  exact ⟨rfl, rfl⟩
set_option maxHeartbeats 400000 in
theorem append_any (s : ByteArray) (w : World) (hs : s.size ≤ 1000000000) :
    Calls Try.prog 20 #[.string s] w fun e w' => e = .returned (.string ⟨(Crc.app s.data.toList).toArray⟩) ∧ Below w.heap.size w w' := by
  have Hu := kept (show ((Crc.upd 0 s.data.toList : Nat) : Int) < 4294967296 by have := Crc.upd_lt (x := 0) s.data.toList (by omega); omega)
  have hcat := fun W => run_cat (P := Try.prog) W (a := s) (b := ⟨(Crc.four (Crc.upd 0 s.data.toList)).toArray⟩) rfl rfl (by rw [Crc.four_length]; simp; omega)
  go_enter Try.func20, Try.ntmps20
  go_wp2_with (first | (go_at_call 16; refine (sum_any _ _ hs).mono ?_; rintro e w' ⟨rfl, rfl⟩) | (go_at_call 42; refine (octets_any _ _ (by omega) Hu.out).mono ?_; rintro e w' ⟨rfl, hb⟩))
  go_ret
  exact ⟨rfl, hb⟩
set_option maxHeartbeats 400000 in
theorem verify_any (s : ByteArray) (w : World) (hs : s.size ≤ 1000000000) :
    Calls Try.prog 21 #[.string s] w fun e w' => e = .returned (.tuple #[.string ⟨(Crc.ver s.data.toList).1.toArray⟩, .int .i64 (Crc.ver s.data.toList).2]) ∧ Below w.heap.size w w' := by
  by_cases h4 : s.size < 4
  · rw [ver_short _ (by simpa using h4)]
    go_enter Try.func21, Try.ntmps21
    go_wp2
    go_ret2
    exact ⟨rfl, Below.refl _ _⟩
  · obtain ⟨n, hn⟩ : ∃ n : Nat, s.size = n + 4 := ⟨s.size - 4, by omega⟩
    have Hu := kept (show ((Crc.upd 0 (s.data.toList.take n) : Nat) : Int) < 4294967296 by have := Crc.upd_lt (x := 0) (s.data.toList.take n) (by omega); omega)
    have hl : s.data.toList.length = n + 4 := by simpa using hn
    have hx : (s.extract n (n + 4)).toList = s.data.toList.drop n := by
      rw [ByteArray.toList_eq, ← hn]; exact ver_slice_drop s n
    have Hs := kept hs
    have hb : (n : Int) ≤ 1000000000 := by omega
    clear h4 hs
    by_cases hd : s.data.toList.drop n = Crc.four (Crc.upd 0 (s.data.toList.take n))
    · rw [ver_good _ n hl hd]
      have heq : ((s.extract n (n + 4)).toList == Crc.four (Crc.upd 0 (s.data.toList.take n))) = true := by rw [hx, hd]; exact beq_self_eq_true _
      clear hd hl hx
      go_enter Try.func21, Try.ntmps21
      go_wp2
      go_region_with (first | (go_at_call 16; refine (sum_any _ _ (by have := Hs.out; simp; omega)).mono ?_; rintro e w' ⟨rfl, rfl⟩) | (go_at_call 42; refine (octets_any _ _ (by omega) (by simpa using Hu.out)).mono ?_; rintro e w' ⟨rfl, hb⟩))
      all_goals go_wp2
      all_goals go_ret2
      all_goals exact ⟨by rw [str_of (ver_slice_take s n)]; rfl, (Below.refl _ w).drew.trans hb⟩
    · rw [ver_bad _ n hl hd]
      have heq : ((s.extract n (n + 4)).toList == Crc.four (Crc.upd 0 (s.data.toList.take n))) = false := by rw [hx]; exact beq_eq_false_iff_ne.2 hd
      clear hd hl hx
      go_enter Try.func21, Try.ntmps21
      go_wp2
      go_region_with (first | (go_at_call 16; refine (sum_any _ _ (by have := Hs.out; simp; omega)).mono ?_; rintro e w' ⟨rfl, rfl⟩) | (go_at_call 42; refine (octets_any _ _ (by omega) (by simpa using Hu.out)).mono ?_; rintro e w' ⟨rfl, hb⟩))
      all_goals go_wp2
      all_goals go_ret2
      all_goals exact ⟨rfl, (Below.refl _ w).drew.trans hb⟩

set_option maxHeartbeats 400000 in
theorem refSum_any (s : ByteArray) (w : World) (hs : s.size ≤ 1000000000) :
    Calls Try.prog 17 #[.string s] w fun e w' => e = .returned (.int .u32 (Crc.upd 0 s.data.toList : Nat)) ∧ w = w' := by
  go_enter Try.func17, Try.ntmps17
  go_wp2_with (go_at_call 19; refine (refUpd_any 0 _ _ (by omega) (by omega) (by omega)).mono ?_; rintro e w' ⟨rfl, rfl⟩)
  go_ret
  exact ⟨rfl, rfl⟩
set_option maxHeartbeats 400000 in
theorem refAppend_any (s : ByteArray) (w : World) (hs : s.size ≤ 1000000000) :
    Calls Try.prog 22 #[.string s] w fun e w' => e = .returned (.string ⟨(Crc.app s.data.toList).toArray⟩) ∧ Below w.heap.size w w' := by
  have Hu := kept (show ((Crc.upd 0 s.data.toList : Nat) : Int) < 4294967296 by have := Crc.upd_lt (x := 0) s.data.toList (by omega); omega)
  have hcat := fun W => run_cat (P := Try.prog) W (a := s) (b := ⟨(Crc.four (Crc.upd 0 s.data.toList)).toArray⟩) rfl rfl (by rw [Crc.four_length]; simp; omega)
  go_enter Try.func22, Try.ntmps22
  go_wp2_with (first | (go_at_call 17; refine (refSum_any _ _ hs).mono ?_; rintro e w' ⟨rfl, rfl⟩) | (go_at_call 43; refine (four_any _ _ (by omega) Hu.out).mono ?_; rintro e w' ⟨rfl, hb⟩))
  go_ret
  exact ⟨rfl, hb⟩
set_option maxHeartbeats 400000 in
theorem refVerify_any (s : ByteArray) (w : World) (hs : s.size ≤ 1000000000) :
    Calls Try.prog 23 #[.string s] w fun e w' => e = .returned (.tuple #[.string ⟨(Crc.ver s.data.toList).1.toArray⟩, .int .i64 (Crc.ver s.data.toList).2]) ∧ Below w.heap.size w w' := by
  by_cases h4 : s.size < 4
  · rw [ver_short _ (by simpa using h4)]
    go_enter Try.func23, Try.ntmps23
    go_wp2
    go_ret2
    exact ⟨rfl, Below.refl _ _⟩
  · obtain ⟨n, hn⟩ : ∃ n : Nat, s.size = n + 4 := ⟨s.size - 4, by omega⟩
    have Hu := kept (show ((Crc.upd 0 (s.data.toList.take n) : Nat) : Int) < 4294967296 by have := Crc.upd_lt (x := 0) (s.data.toList.take n) (by omega); omega)
    have hl : s.data.toList.length = n + 4 := by simpa using hn
    have hx : (s.extract n (n + 4)).toList = s.data.toList.drop n := by
      rw [ByteArray.toList_eq, ← hn]; exact ver_slice_drop s n
    have Hs := kept hs
    have hb : (n : Int) ≤ 1000000000 := by omega
    clear h4 hs
    by_cases hd : s.data.toList.drop n = Crc.four (Crc.upd 0 (s.data.toList.take n))
    · rw [ver_good _ n hl hd]
      have heq : ((s.extract n (n + 4)).toList == Crc.four (Crc.upd 0 (s.data.toList.take n))) = true := by rw [hx, hd]; exact beq_self_eq_true _
      clear hd hl hx
      go_enter Try.func23, Try.ntmps23
      go_wp2
      go_region_with (first | (go_at_call 17; refine (refSum_any _ _ (by have := Hs.out; simp; omega)).mono ?_; rintro e w' ⟨rfl, rfl⟩) | (go_at_call 43; refine (four_any _ _ (by omega) (by simpa using Hu.out)).mono ?_; rintro e w' ⟨rfl, hb⟩))
      all_goals go_wp2
      all_goals go_ret2
      all_goals exact ⟨by rw [str_of (ver_slice_take s n)]; rfl, (Below.refl _ w).drew.trans hb⟩
    · rw [ver_bad _ n hl hd]
      have heq : ((s.extract n (n + 4)).toList == Crc.four (Crc.upd 0 (s.data.toList.take n))) = false := by rw [hx]; exact beq_eq_false_iff_ne.2 hd
      clear hd hl hx
      go_enter Try.func23, Try.ntmps23
      go_wp2
      go_region_with (first | (go_at_call 17; refine (refSum_any _ _ (by have := Hs.out; simp; omega)).mono ?_; rintro e w' ⟨rfl, rfl⟩) | (go_at_call 43; refine (four_any _ _ (by omega) (by simpa using Hu.out)).mono ?_; rintro e w' ⟨rfl, hb⟩))
      all_goals go_wp2
      all_goals go_ret2
      all_goals exact ⟨rfl, (Below.refl _ w).drew.trans hb⟩
end Go.Proofs.Ytlgpmcpkddgpmaa
