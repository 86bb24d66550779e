/- The walks of the packages seal and provisionref33: bytes of words, words of bytes. -/
import Derived.Test.YtlgpmcpkddgpmaaSealWalks
namespace Go.Proofs.Ytlgpmcpkddgpmaa
open Go.RowKit

theorem nat_of (x : Int) (h : 0 ≤ x) : ((x.toNat : Nat) : Int) = x := by omega
theorem shr_byte (x : Int) (h : 0 ≤ x) (k : Nat) : ((UInt8.ofNat (x.toNat / 2 ^ (8 * k))).toNat : Int) = x / 2 ^ (8 * k) % 256 := by
  obtain ⟨n, rfl⟩ := Int.eq_ofNat_of_zero_le h
  rw [UInt8.toNat_ofNat', Int.toNat_natCast]
  simp

set_option maxHeartbeats 400000 in
theorem octets8_any (x : Int) (w : World) (hx : Seal.U64 x) :
    Calls Try.prog 45 #[.int .u64 x] w fun e w' => e = .returned (.string ⟨(Seal.eight x.toNat).toArray⟩) ∧ Below w.heap.size w w' := by
  obtain ⟨W1, hmk0, hby, hbel, hsz⟩ := make_bytes (P := Try.prog) w 8 50 5 Try.underlying50 info_u8 (by omega)
  have hmk : (Instr.makeSlice 50 (.int .i64 8) (.int .i64 8)).run Try.prog w = .ok (.slice (some ⟨w.heap.size, 0, none⟩) 8 8) W1 := hmk0
  have Hb := kept hby; have Hl := kept hbel
  clear hmk0 hby hbel
  go_enter Try.func45, Try.ntmps45
  go_wp2
  clear hmk
  go_loopw [8] (fun i wr => ∃ (k : Nat) (l : List UInt8), k ≤ 8 ∧ i = .int .i64 k ∧ l.length = 8 ∧ l.take k = (Seal.eight x.toNat).take k ∧ BytesAt wr w.heap.size 5 l ∧ Below w.heap.size w wr) (fun i _ => 8 - (intOf i).toNat)
  case atStart => exact ⟨0, List.replicate 8 0, by omega, rfl, by simp, by simp, Hb.out, Hl.out⟩
  case round =>
    obtain ⟨k, l, hk, rfl, hll, htk, hby, hbel⟩ := hrel
    have Hb := kept hby; have Hl := kept hbel; have Hll := kept hll; have Htk := kept htk
    clear hby hbel hll htk
    by_cases hlt : k < 8
    · have hlt2 : k < l.length := by rw [Hll.out]; exact hlt
      have hc := Hb.out.cell k hlt2
      have hf := Hb.out.free k hlt2
      have hset := Hb.out.set k (UInt8.ofNat (x.toNat / 2 ^ (8 * k)))
      rw [shr_byte x hx.lo k] at hset
      have Hset := kept hset
      have Ht := kept (show (l.set k (UInt8.ofNat (x.toNat / 2 ^ (8 * k)))).take (k + 1) = (Seal.eight x.toNat).take (k + 1) by
        rw [Seal.eight_take _ k hlt, List.take_succ_eq_append_getElem (by simpa using hlt2), List.take_set_of_le (by omega), Htk.out]
        simp)
      generalize l[k].toNat = q at hc
      clear hset hlt2 hx
      go_wp2
      go_roundw
      case rel => exact ⟨k + 1, _, by omega, by go_num, by rw [List.length_set]; exact Hll.out, Ht.out, Hset.out, Hl.out.setCell (Nat.le_refl _) _⟩
      case measure => simp [intOf]; omega
    · obtain rfl : k = 8 := by omega
      have hc := Hb.out.conv_of (P := Try.prog) 50 9 8 8 Hll.out Try.underlying50 Try.underlying5 Try.underlying9
      go_wp2
      go_ret
      exact ⟨ret_str (by have := Htk.out; rwa [List.take_of_length_le (by rw [Hll.out]; omega), List.take_of_length_le (by rw [Seal.eight_length]; omega)] at this), Hl.out⟩

theorem u64_quo (y c : Int) (h : Seal.U64 y) (hc : 0 < c) : IntKind.u64.wrap (y.tdiv c) = y / c := by
  have h1 := Int.ediv_le_self c h.lo
  have h2 := h.hi
  have h3 : 0 ≤ y / c := Int.ediv_nonneg h.lo (by omega)
  rw [Int.tdiv_eq_ediv_of_nonneg h.lo, IntKind.wrap_u64]
  omega
set_option maxHeartbeats 400000 in
theorem eight_any (x : Int) (w : World) (hx : Seal.U64 x) :
    Calls Try.prog 48 #[.int .u64 x] w fun e w' => e = .returned (.string ⟨(Seal.eight x.toNat).toArray⟩) ∧ Below w.heap.size w w' := by
  go_enter Try.func48, Try.ntmps48
  go_wp2
  go_loopw [0, 3, 4] (fun n v i wr => ∃ k : Nat, k ≤ 8 ∧ i = .int .i64 k ∧ n = .int .u64 (x / 2 ^ (8 * k)) ∧ OwnsB wr w.heap.size 5 v ((Seal.eight x.toNat).take k) ∧ Below w.heap.size w wr) (fun _ _ i _ => 8 - (intOf i).toNat)
  case atStart => exact ⟨0, by omega, rfl, by simp, OwnsB.nil _ _ _, Below.refl _ _⟩
  case round =>
    obtain ⟨k, hk, rfl, rfl, hown, hbel⟩ := hrel
    by_cases hlt : k < 8
    · have Hd := kept (show x / 2 ^ (8 * k) / 256 = x / 2 ^ (8 * (k + 1)) by
        rw [Nat.mul_add, Int.pow_add]; exact Int.ediv_ediv_of_nonneg (Int.pow_nonneg (by decide)))
      have Ht := kept (Seal.eight_take x.toNat k hlt)
      have hx0 : 0 ≤ x / 2 ^ (8 * k) := Int.ediv_nonneg hx.lo (Int.pow_nonneg (by decide))
      have Hb := kept (show UInt8.ofNat (x.toNat / 2 ^ (8 * k)) = UInt8.ofNat ((x / 2 ^ (8 * k)) % 256).toNat by
        rw [← UInt8.toNat_inj]
        have h1 := shr_byte x hx.lo k
        have h2 := byte_of (x / 2 ^ (8 * k) % 256) (by omega) (by omega)
        omega)
      have hlen : ((Seal.eight x.toNat).take k).length ≤ 8 := by simp [Seal.eight_length]; omega
      have hsz := hbel.size
      have Hq := kept (u64_quo (x / 2 ^ (8 * k)) 256 ⟨hx0, by have := Int.ediv_le_self (2 ^ (8 * k)) hx.lo; have := hx.hi; omega⟩ (by omega))
      have Ho := kept hown; have Hl := kept hbel; have Hlen := kept hlen
      generalize hy : x / 2 ^ (8 * k) = y at hx0
      have Hy := kept hy; clear hy hown hbel hlen hx
      go_wp2_with (at_builtin; refine wpList_append_byte rfl _ _ 50 5 rfl Try.underlying50 info_u8 w.heap.size _ _ rfl (Ho.out.below ((Below.refl _ _).alloc (Nat.le_refl _) _) (Nat.le_refl _)) (Hl.out.alloc hsz _) ⟨wr.heap.size, 0, none⟩ 1 (y % 256) rfl ?_ ?_ ?_ ?_ ?_ ?_)
      · simp
      · omega
      · omega
      · have := Hlen.out; omega
      · simp; omega
      · intro v' w' hown' hbel' _
        have Ho' := kept hown'; have Hl' := kept hbel'
        clear hsz hown' hbel'
        go_wp2
        go_roundw
        case rel => exact ⟨k + 1, by omega, by go_num, by rw [← Hd.out, ← Hq.out, Hy.out], by rw [Ht.out, Hb.out, Hy.out]; exact Ho'.out, Hl'.out⟩
        case measure => simp [intOf]; omega
    · obtain rfl : k = 8 := by omega
      have hc := hown.conv (P := Try.prog) 50 9 Try.underlying50 Try.underlying5 Try.underlying9
      rw [List.take_of_length_le (by simp [Seal.eight_length])] at hc
      have Hl := kept hbel
      clear hown hbel hx
      go_wp2
      go_ret
      exact ⟨rfl, Hl.out⟩

theorem wrap_byte (b : UInt8) : IntKind.u64.wrap (b.toNat : Int) = (b.toNat : Int) := by
  have hb := b.toNat_lt
  rw [IntKind.wrap_u64]; omega
theorem pow8 (k : Nat) (h : k ≤ 8) : 2 ^ (8 * k) ≤ 18446744073709551616 := by
  have := Nat.pow_le_pow_right (n := 2) (by omega) (show 8 * k ≤ 64 by omega)
  simpa using this
theorem or_step (l : List UInt8) (b : UInt8) (k : Nat) (hl : l.length = k) (hk : k < 8) :
    bits .or .u64 (Crc.le l : Nat) (IntKind.u64.wrap (IntKind.u64.wrap b.toNat * 2 ^ (8 * k))) = (Crc.le (l ++ [b]) : Nat) := by
  have hb := b.toNat_lt
  have h1 := Crc.le_lt l
  rw [hl] at h1
  have h2 := Crc.le_lt (l ++ [b])
  rw [List.length_append, hl, List.length_singleton] at h2
  have h3 := pow8 (k + 1) (by omega)
  have h4 := pow8 k (by omega)
  have e : Crc.le (l ++ [b]) = 2 ^ (8 * k) * b.toNat + Crc.le l := by rw [Seal.le_append, hl]; simp [Crc.le]; omega
  have h5 : 2 ^ (8 * k) * b.toNat < 18446744073709551616 := by omega
  rw [wrap_byte, IntKind.wrap_u64]
  have e2 : ((b.toNat : Int) * 2 ^ (8 * k)) % 18446744073709551616 = ((2 ^ (8 * k) * b.toNat : Nat) : Int) := by
    rw [show ((b.toNat : Int) * 2 ^ (8 * k)) = ((2 ^ (8 * k) * b.toNat : Nat) : Int) by simp [Int.mul_comm]]
    omega
  rw [e2, bits_or_u64_nat _ _ (by omega) h5, e, Nat.or_comm, Nat.two_pow_add_eq_or_of_lt h1]

set_option maxHeartbeats 400000 in
theorem word_any (s : ByteArray) (w : World) (h8 : 8 ≤ s.size) :
    Calls Try.prog 55 #[.string s] w fun e w' => e = .returned (.int .u64 (Seal.number s.data.toList : Nat)) ∧ w = w' := by
  go_enter Try.func55, Try.ntmps55
  go_wp2
  go_loop [3, 5] (fun x i => ∃ k : Nat, k ≤ 8 ∧ i = .int .i64 k ∧ x = .int .u64 (Crc.le (s.data.toList.take k) : Nat)) (fun _ i => 8 - (intOf i).toNat)
  case atStart => exact ⟨0, by omega, rfl, by simp [Crc.le]⟩
  case round =>
    obtain ⟨k, hk, rfl, rfl⟩ := hrel
    by_cases hlt : k < 8
    · have hk2 : k < s.size := by omega
      have Hn := kept (or_step (s.data.toList.take k) s[k] k (by simp; omega) hlt)
      have Ht := kept (take_next s k hk2)
      generalize hy : Crc.le (s.data.toList.take k) = y at *
      have Hy := kept hy; clear hy
      go_wp2
      go_round
      case rel => exact ⟨k + 1, by omega, by go_num, by rw [Ht.out, ← Hn.out]⟩
      case measure => simp [intOf]; omega
    · obtain rfl : k = 8 := by omega
      go_wp2
      go_ret
      exact ⟨rfl, rfl⟩
end Go.Proofs.Ytlgpmcpkddgpmaa
