/- The walk of provisionref33.Stream. -/
import Derived.Test.YtlgpmcpkddgpmaaSealWalks3
namespace Go.Proofs.Ytlgpmcpkddgpmaa
open Go.RowKit

/-- The word of the key stream that stands in the variable before byte k. -/
def Wd (n y : Int) (k : Nat) : Prop := Seal.U64 y ∧ y = Seal.word n (k / 8) / 2 ^ (8 * (k % 8))
theorem wd_zero (n : Int) (k : Nat) (h : k % 8 = 0) : Wd n (Seal.word n (k / 8)) k := ⟨Seal.word_u64 _ _, by rw [h]; simp⟩
theorem wd_next {n y : Int} {k : Nat} (h : Wd n y k) : (k + 1) % 8 ≠ 0 → Wd n (y / 256) (k + 1) := fun hk => by
  have h1 := h.1.lo; have h2 := h.1.hi
  refine ⟨⟨by omega, by omega⟩, ?_⟩
  rw [h.2, show (k + 1) / 8 = k / 8 by omega, show 8 * ((k + 1) % 8) = 8 * (k % 8) + 8 by omega, Int.pow_add]
  exact Int.ediv_ediv_of_nonneg (Int.pow_nonneg (by decide))
theorem wd_byte {n y : Int} {k : Nat} (h : Wd n y k) (b : UInt8) : bits .xor .u8 (b.toNat : Int) (y % 256) = ((b ^^^ Seal.key n k).toNat : Int) := by
  have h2 := shr_byte (Seal.word n (k / 8)) (Seal.word_u64 _ _).lo (k % 8)
  rw [← h.2] at h2
  have hkey : Seal.key n k = UInt8.ofNat ((Seal.word n (k / 8)).toNat / 2 ^ (8 * (k % 8))) := rfl
  rw [← h2, ← hkey, u8_xor_nat _ _ b.toNat_lt (Seal.key n k).toNat_lt, UInt8.toNat_xor]
theorem comb_take (n : Int) (s : ByteArray) (k : Nat) (hk : k < s.size) : (Seal.comb n 0 s.data.toList).take (k + 1) = (Seal.comb n 0 s.data.toList).take k ++ [s[k] ^^^ Seal.key n k] := by
  have hkl : k < s.data.toList.length := by simpa using hk
  have hcl : k < (Seal.comb n 0 s.data.toList).length := by rw [Seal.comb_length]; exact hkl
  rw [List.take_succ_eq_append_getElem hcl, Seal.comb_get n 0 _ k hkl]
  simp only [Nat.zero_add]; rfl

set_option maxHeartbeats 1000000 in
theorem stream_any (n : Int) (s : ByteArray) (w : World) (hs : s.size ≤ 1000000000) :
    Calls Try.prog 38 #[.int .u64 n, .string s] w fun e w' => e = .returned (.string ⟨(Seal.comb n 0 s.data.toList).toArray⟩) ∧ Below w.heap.size w w' := by
  go_enter Try.func38, Try.ntmps38
  go_wp2
  go_loopw [5, 6, 7] (fun v x i wr => ∃ (k : Nat) (y : Int), k ≤ s.size ∧ i = .int .i64 k ∧ x = .int .u64 y ∧ 0 ≤ y ∧ (k % 8 ≠ 0 → Wd n y k) ∧ OwnsB wr w.heap.size 5 v ((Seal.comb n 0 s.data.toList).take k) ∧ Below w.heap.size w wr) (fun _ _ i _ => s.size - (intOf i).toNat)
  case atStart => exact ⟨0, 0, by omega, rfl, rfl, by omega, by omega, OwnsB.nil _ _ _, Below.refl _ _⟩
  case round =>
    obtain ⟨k, y, hk, rfl, rfl, hy0, hyw, hown, hbel⟩ := hrel
    have Hl := kept hbel; have Hyw := kept hyw; have Ho := kept hown; have hsz := hbel.size
    clear hbel hyw hown
    by_cases hlt : k < s.size
    · have hin : (k : Int) < s.size := by omega
      have Hlen := kept (show ((Seal.comb n 0 s.data.toList).take k).length < 1099511627776 by rw [List.length_take, Seal.comb_length]; simp; omega)
      have Ht := kept (comb_take n s k hlt)
      have hv0 : 0 ≤ (((s[k] ^^^ Seal.key n k).toNat : Nat) : Int) := by omega
      have hv1 : (((s[k] ^^^ Seal.key n k).toNat : Nat) : Int) < 256 := by have := (s[k] ^^^ Seal.key n k).toNat_lt; omega
      have Hv := kept (show s[k] ^^^ Seal.key n k = UInt8.ofNat (((s[k] ^^^ Seal.key n k).toNat : Nat) : Int).toNat by rw [Int.toNat_natCast]; simp)
      by_cases h8 : k % 8 = 0
      · have h8' : ((k : Int) % 8 == 0) = true := by simp; omega
        have Hw := kept (word_eq n k)
        have Hwd := kept (wd_zero n k h8)
        have hx := wd_byte Hwd.out s[k]
        have hz0 := Hwd.out.1.lo
        have Hq := kept (u64_quo (Seal.word n (k / 8)) 256 Hwd.out.1 (by omega))
        generalize hv : Seal.word n (k / 8) = v at hx hz0 Hw Hwd Hq
        generalize hb : (((s[k] ^^^ Seal.key n k).toNat : Nat) : Int) = b at hx hv0 hv1 Hv
        clear h8 hv hb
        go_wp2_with (first | (go_at_call 51; refine (refMix_any _ _).mono ?_; rintro e w' ⟨rfl, rfl⟩; try rw [Hw.out]) | (at_builtin; refine wpList_append_byte rfl _ _ 50 5 rfl Try.underlying50 info_u8 w.heap.size _ _ rfl (Ho.out.below ((Below.refl _ _).alloc (Nat.le_refl _) _) (Nat.le_refl _)) (Hl.out.alloc hsz _) ⟨wr.heap.size, 0, none⟩ 1 b rfl ?_ ?_ ?_ ?_ ?_ ?_))
        · simp
        · exact hv0
        · exact hv1
        · exact Hlen.out
        · simp; omega
        · intro v' w' hown' hbel' _
          have Ho' := kept hown'; have Hl' := kept hbel'
          clear hsz hown' hbel'
          go_wp2
          go_roundw
          case rel => exact ⟨k + 1, v / 256, by omega, by go_num, by rw [← Hq.out], by omega, wd_next Hwd.out, by rw [Ht.out, Hv.out]; exact Ho'.out, Hl'.out⟩
          case measure => simp [intOf]; omega
      · have h8' : ((k : Int) % 8 == 0) = false := by simp; omega
        have Hwd := kept (Hyw.out h8)
        have hx := wd_byte Hwd.out s[k]
        have Hq := kept (u64_quo y 256 Hwd.out.1 (by omega))
        generalize hb : (((s[k] ^^^ Seal.key n k).toNat : Nat) : Int) = b at hx hv0 hv1 Hv
        clear h8 hb
        go_wp2_with (at_builtin; refine wpList_append_byte rfl _ _ 50 5 rfl Try.underlying50 info_u8 w.heap.size _ _ rfl (Ho.out.below ((Below.refl _ _).alloc (Nat.le_refl _) _) (Nat.le_refl _)) (Hl.out.alloc hsz _) ⟨wr.heap.size, 0, none⟩ 1 b rfl ?_ ?_ ?_ ?_ ?_ ?_)
        · simp
        · exact hv0
        · exact hv1
        · exact Hlen.out
        · simp; omega
        · intro v' w' hown' hbel' _
          have Ho' := kept hown'; have Hl' := kept hbel'
          clear hsz hown' hbel'
          go_wp2
          go_roundw
          case rel => exact ⟨k + 1, y / 256, by omega, by go_num, by rw [← Hq.out], by omega, wd_next Hwd.out, by rw [Ht.out, Hv.out]; exact Ho'.out, Hl'.out⟩
          case measure => simp [intOf]; omega
    · obtain rfl : k = s.size := by omega
      have hc := Ho.out.conv (P := Try.prog) 50 9 Try.underlying50 Try.underlying5 Try.underlying9
      rw [List.take_of_length_le (by rw [Seal.comb_length]; simp)] at hc
      go_wp2
      go_ret
      exact ⟨rfl, Hl.out⟩
end Go.Proofs.Ytlgpmcpkddgpmaa
