/- The laws ChecksumParts, ChecksumAppends and ChecksumVerifies: the walks. -/
import Derived.Test.YtlgpmcpkddgpmaaCrcLaws
namespace Go.Proofs.Ytlgpmcpkddgpmaa
open Go.RowKit

theorem upd_upd (l m : List UInt8) : Crc.upd (Crc.upd 0 l) m = Crc.upd 0 (l ++ m) := (Crc.upd_append 0 l m).symm
theorem ver_app (l : List UInt8) : Crc.ver (Crc.app l) = (l, 0) := by
  unfold Crc.ver Crc.app
  rw [if_neg (by simp [Crc.four_length]), if_pos (by simp [Crc.four_length])]
  simp [Crc.four_length]

theorem refVerify_at (s : ByteArray) (l : List UInt8) (k : Int) (w : World) (hs : s.size ≤ 1000000000) (h : Crc.ver s.data.toList = (l, k)) :
    Calls Try.prog 23 #[.string s] w fun e w' => e = .returned (.tuple #[.string ⟨l.toArray⟩, .int .i64 k]) ∧ Below w.heap.size w w' := by
  have := refVerify_any s w hs
  rw [h] at this; exact this

set_option maxHeartbeats 800000 in
theorem checksumParts_walk (s t : ByteArray) (hs : s.size ≤ maxLen) (ht : t.size ≤ maxLen) (w : World) :
    Calls Try.prog 4 #[.string s, .string t] w fun e w' => e = .returned (.bool true) ∧ Below w.heap.size w w' := by
  unfold maxLen at hs ht
  by_cases h : s.size ≤ 2000
  · by_cases h2 : t.size ≤ 2000
    · clear hs ht
      have hu : ((Crc.upd 0 s.data.toList : Nat) : Int) < 4294967296 := by have := Crc.upd_lt (x := 0) s.data.toList (by omega); omega
      have Hu := kept hu
      have hcat := fun W => run_cat (P := Try.prog) W (a := s) (b := t) rfl rfl (by simp; omega)
      have heq : ((Crc.upd 0 (⟨(s.data.toList ++ t.data.toList).toArray⟩ : ByteArray).data.toList : Nat) : Int) = (Crc.upd (Crc.upd 0 s.data.toList) t.data.toList : Nat) := by rw [upd_upd]
      have Hz := kept (show (⟨(s.data.toList ++ t.data.toList).toArray⟩ : ByteArray).size ≤ 1000000000 by rw [size_mk, List.length_append]; simp only [Array.length_toList, ByteArray.size_data]; omega)
      have Heq := kept heq
      clear hu heq
      go_enter Try.func4, Try.ntmps4
      go_wp2_with fail
      refine (sum_any _ _ (by omega)).mono ?_; rintro e w' ⟨rfl, rfl⟩
      go_wp2_with fail
      refine (upd_any _ _ _ (by omega) Hu.out (by omega)).mono ?_; rintro e w' ⟨rfl, rfl⟩
      go_wp2_with fail
      refine (sum_at _ (Crc.upd (Crc.upd 0 s.data.toList) t.data.toList : Nat) _ Hz.out Heq.out).mono ?_; rintro e w' ⟨rfl, rfl⟩
      go_wp2_with fail
      refine (upd_any _ _ _ (by omega) (by omega) (by omega)).mono ?_; rintro e w' ⟨rfl, rfl⟩
      go_wp2_with fail
      refine (sum_any _ _ (by omega)).mono ?_; rintro e w' ⟨rfl, rfl⟩
      go_wp2_with fail
      refine (awake3_any _).mono ?_; rintro e w' ⟨rfl, hb⟩
      go_wp2
      go_ret
      exact ⟨rfl, hb⟩
    · go_enter Try.func4, Try.ntmps4
      go_wp2_with (go_at_call 15; refine (awake3_any _).mono ?_; rintro e w' ⟨rfl, hb⟩)
      go_ret
      exact ⟨rfl, hb⟩
  · go_enter Try.func4, Try.ntmps4
    go_wp2_with (go_at_call 15; refine (awake3_any _).mono ?_; rintro e w' ⟨rfl, hb⟩)
    go_ret
    exact ⟨rfl, hb⟩

set_option maxHeartbeats 800000 in
theorem checksumAppends_walk (s : ByteArray) (hs : s.size ≤ maxLen) (w : World) :
    Calls Try.prog 5 #[.string s] w fun e w' => e = .returned (.bool true) ∧ Below w.heap.size w w' := by
  unfold maxLen at hs
  by_cases h : s.size ≤ 2000
  · clear hs
    have hl : (Crc.app s.data.toList).length = s.size + 4 := by simp [Crc.app, Crc.four_length]
    have Hs := kept (show (⟨(Crc.app s.data.toList).toArray⟩ : ByteArray).size ≤ 1000000000 by rw [size_mk, hl]; omega)
    have heq : (s.data.toList == s.toList) = true := by rw [ByteArray.toList_eq]; exact beq_self_eq_true _
    clear hl
    go_enter Try.func5, Try.ntmps5
    go_wp2_with fail
    refine (append_any _ _ (by omega)).mono ?_; rintro e w1 ⟨rfl, b1⟩
    go_wp2_with fail
    refine (verify_at _ _ _ _ Hs.out (ver_app s.data.toList)).mono ?_; rintro e w2 ⟨rfl, b2⟩
    go_wp2_with fail
    refine (refAppend_any _ _ (by omega)).mono ?_; rintro e w3 ⟨rfl, b3⟩
    go_wp2_with fail
    refine (awake3_any _).mono ?_; rintro e w4 ⟨rfl, b4⟩
    go_wp2
    go_ret
    exact ⟨rfl, bthen (bthen (bthen b1 b2) b3) b4⟩
  · go_enter Try.func5, Try.ntmps5
    go_wp2_with (go_at_call 15; refine (awake3_any _).mono ?_; rintro e w' ⟨rfl, hb⟩)
    go_ret
    exact ⟨rfl, hb⟩

set_option maxHeartbeats 800000 in
theorem checksumVerifies_walk (s : ByteArray) (hs : s.size ≤ maxLen) (w : World) :
    Calls Try.prog 6 #[.string s] w fun e w' => e = .returned (.bool true) ∧ Below w.heap.size w w' := by
  unfold maxLen at hs
  by_cases h : s.size ≤ 2000
  · clear hs
    generalize hv : Crc.ver s.data.toList = r
    obtain ⟨l, k⟩ := r
    have Hv := kept hv
    clear hv
    go_enter Try.func6, Try.ntmps6
    go_wp2_with fail
    refine (verify_at _ _ _ _ (by omega) Hv.out).mono ?_; rintro e w1 ⟨rfl, b1⟩
    go_wp2_with fail
    refine (refVerify_at _ _ _ _ (by omega) Hv.out).mono ?_; rintro e w2 ⟨rfl, b2⟩
    go_wp2_with fail
    refine (awake3_any _).mono ?_; rintro e w4 ⟨rfl, b4⟩
    go_wp2
    go_ret
    exact ⟨rfl, bthen (bthen b1 b2) b4⟩
  · go_enter Try.func6, Try.ntmps6
    go_wp2_with (go_at_call 15; refine (awake3_any _).mono ?_; rintro e w' ⟨rfl, hb⟩)
    go_ret
    exact ⟨rfl, hb⟩
end Go.Proofs.Ytlgpmcpkddgpmaa
