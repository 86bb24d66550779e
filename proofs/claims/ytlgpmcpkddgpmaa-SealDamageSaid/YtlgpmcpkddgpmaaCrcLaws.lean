/- The laws of layer 3, but for the bursts: the walks. -/
import Derived.Test.YtlgpmcpkddgpmaaCrcCalls
namespace Go.Proofs.Ytlgpmcpkddgpmaa
open Go.RowKit

theorem sum_at (s : ByteArray) (n : Int) (w : World) (hs : s.size ≤ 1000000000) (h : ((Crc.upd 0 s.data.toList : Nat) : Int) = n) :
    Calls Try.prog 16 #[.string s] w fun e w' => e = .returned (.int .u32 n) ∧ w = w' := by
  subst h; exact sum_any s w hs
theorem append_at (s : ByteArray) (l : List UInt8) (w : World) (hs : s.size ≤ 1000000000) (h : Crc.app s.data.toList = l) :
    Calls Try.prog 20 #[.string s] w fun e w' => e = .returned (.string ⟨l.toArray⟩) ∧ Below w.heap.size w w' := by
  subst h; exact append_any s w hs
theorem verify_at (s : ByteArray) (l : List UInt8) (k : Int) (w : World) (hs : s.size ≤ 1000000000) (h : Crc.ver s.data.toList = (l, k)) :
    Calls Try.prog 21 #[.string s] w fun e w' => e = .returned (.tuple #[.string ⟨l.toArray⟩, .int .i64 k]) ∧ Below w.heap.size w w' := by
  have := verify_any s w hs
  rw [h] at this; exact this

theorem app_a : Crc.app [97] = [97, 67, 190, 183, 232] := by decide +kernel
theorem ver_a : Crc.ver [97, 67, 190, 183, 232] = ([97], 0) := by decide +kernel
theorem ver_abc : Crc.ver [97, 98, 99] = ([], 40) := by decide +kernel
theorem sum_9 : ((Crc.upd 0 [49, 50, 51, 52, 53, 54, 55, 56, 57] : Nat) : Int) = 3421780262 := by decide +kernel
theorem sum_a : ((Crc.upd 0 [97] : Nat) : Int) = 3904355907 := by decide +kernel
theorem app_0 : Crc.app [] = [0, 0, 0, 0] := by decide +kernel

set_option maxHeartbeats 800000 in
theorem awake3_any (w : World) :
    Calls Try.prog 15 #[] w fun e w' => e = .returned (.bool true) ∧ Below w.heap.size w w' := by
  go_enter Try.func15, Try.ntmps15
  go_wp2_with fail
  refine (append_at ⟨#[97]⟩ _ _ (by decide) app_a).mono ?_; rintro e w1 ⟨rfl, b1⟩
  go_wp2_with fail
  refine (verify_at ⟨#[97, 67, 190, 183, 232]⟩ _ _ _ (by decide) ver_a).mono ?_; rintro e w2 ⟨rfl, b2⟩
  go_wp2_with fail
  refine (verify_at ⟨#[97, 98, 99]⟩ _ _ _ (by decide) ver_abc).mono ?_; rintro e w3 ⟨rfl, b3⟩
  go_wp2_with fail
  refine (sum_at ⟨#[49, 50, 51, 52, 53, 54, 55, 56, 57]⟩ _ _ (by decide) sum_9).mono ?_; rintro e w4 ⟨rfl, rfl⟩
  go_wp2_with fail
  refine (sum_at ⟨#[97]⟩ _ _ (by decide) sum_a).mono ?_; rintro e w4 ⟨rfl, rfl⟩
  go_wp2_with fail
  refine (append_at ⟨#[]⟩ _ _ (by decide) app_0).mono ?_; rintro e w5 ⟨rfl, b5⟩
  go_wp2
  go_ret
  exact ⟨rfl, bthen (bthen (bthen b1 b2) b3) b5⟩

set_option maxHeartbeats 800000 in
theorem checksumSums_walk (s : ByteArray) (n : Int) (hs : s.size ≤ maxLen) (hn : (Lit.int .u32 n).wf = true) (w : World) :
    Calls Try.prog 3 #[.string s, .int .u32 n] w fun e w' => e = .returned (.bool true) ∧ Below w.heap.size w w' := by
  have Hn := kept (wf_u32 hn)
  unfold maxLen at hs
  clear hn
  by_cases h : s.size ≤ 2000
  · clear hs
    go_enter Try.func3, Try.ntmps3
    go_wp2_with (first | (go_at_call 16; refine (sum_any _ _ (by omega)).mono ?_; rintro e w' ⟨rfl, rfl⟩) | (go_at_call 17; refine (refSum_any _ _ (by omega)).mono ?_; rintro e w' ⟨rfl, rfl⟩) | (go_at_call 18; refine (upd_any _ _ _ Hn.out.1 Hn.out.2 (by omega)).mono ?_; rintro e w' ⟨rfl, rfl⟩) | (go_at_call 19; refine (refUpd_any _ _ _ Hn.out.1 Hn.out.2 (by omega)).mono ?_; rintro e w' ⟨rfl, rfl⟩) | (go_at_call 15; refine (awake3_any _).mono ?_; rintro e w' ⟨rfl, hb⟩))
    go_ret
    exact ⟨rfl, hb⟩
  · go_enter Try.func3, Try.ntmps3
    go_wp2_with (go_at_call 15; refine (awake3_any _).mono ?_; rintro e w' ⟨rfl, hb⟩)
    go_ret
    exact ⟨rfl, hb⟩
end Go.Proofs.Ytlgpmcpkddgpmaa
