/- The walks of the packages checksum and provisionref03: each function returns what the plain functions of CrcMath say. -/
import Derived.Test.YtlgpmcpkddgpmaaRows
import Derived.Test.YtlgpmcpkddgpmaaCrcMath
import Derived.Test.YtlgpmcpkddgpmaaLib
namespace Go.Proofs.Ytlgpmcpkddgpmaa
open Go.RowKit

theorem turn1_odd {x : Nat} (h : ((x : Int) % 2 == 1) = true) (hx : x < 4294967296) : Value.int .u32 (bits .xor .u32 ((x : Int) / 2) 3988292384) = .int .u32 (Crc.turn1 x : Nat) := by
  have h1 : x % 2 = 1 := by have := beq_iff_eq.1 h; omega
  have e : ((x : Int) / 2) = ((x / 2 : Nat) : Int) := by omega
  rw [e, show (3988292384 : Int) = ((3988292384 : Nat) : Int) from rfl, u32_xor_nat _ _ (by omega) (by omega), Crc.turn1, if_pos h1]
theorem turn1_even {x : Nat} (h : ((x : Int) % 2 == 1) = false) : Value.int .u32 ((x : Int) / 2) = .int .u32 (Crc.turn1 x : Nat) := by
  have h1 : ¬ x % 2 = 1 := by have := beq_eq_false_iff_ne.1 h; omega
  rw [Crc.turn1, if_neg h1]; congr 1
theorem and_one {x : Nat} (hx : x < 4294967296) : bits .and .u32 (x : Int) 1 = (x : Int) % 2 := by
  rw [show (1 : Int) = ((1 : Nat) : Int) from rfl, u32_and_nat _ _ hx (by omega), Nat.and_one_is_mod]; omega

set_option maxHeartbeats 400000 in
theorem turn_any (c : Nat) (b : UInt8) (w : World) (h : c < 4294967296) :
    Calls Try.prog 41 #[.int .u32 c, .int .u8 b.toNat] w fun e w' => e = .returned (.int .u32 (Crc.byte c b : Nat)) ∧ w = w' := by
  have hb := b.toNat_lt
  have hx : bits .xor .u32 (c : Int) (b.toNat : Int) = ((c ^^^ b.toNat : Nat) : Int) := u32_xor_nat _ _ h (by omega)
  have hl : c ^^^ b.toNat < 4294967296 := Nat.xor_lt_two_pow (n := 32) (by omega) (by omega)
  have hb2 : ((b.toNat : Int)) < 256 := by omega
  generalize hy : c ^^^ b.toNat = y at hx hl
  have Hy := kept hy; clear hy h hb
  go_enter Try.func41, Try.ntmps41
  go_wp2
  clear hx hb2
  go_loop [0, 5] (fun n i => ∃ k : Nat, k ≤ 8 ∧ i = .int .i64 k ∧ n = .int .u32 (Crc.turns k y : Nat)) (fun _ i => 8 - (intOf i).toNat)
  case atStart => exact ⟨0, by omega, rfl, rfl⟩
  case round =>
    obtain ⟨k, hk, rfl, rfl⟩ := hrel
    have hs : ((Crc.turns k y : Nat) : Int) < 4294967296 := by have := Crc.turns_lt k hl; omega
    have hs0 : 0 ≤ ((Crc.turns k y : Nat) : Int) := by omega
    clear hl
    generalize hz : ((Crc.turns k y : Nat) : Int) = z at hs hs0
    have Hz := kept hz; clear hz
    by_cases hlt : k < 8
    · go_wp2
      all_goals
        go_round
        case rel => exact ⟨k + 1, by omega, by go_num, by rw [Crc.turns]; have hz := Hz.out; subst hz; first | exact turn1_odd ‹_› (by omega) | exact turn1_even ‹_›⟩
        case measure => simp [intOf]; omega
    · obtain rfl : k = 8 := by omega
      go_wp2
      go_ret
      exact ⟨ret_int (by rw [Crc.byte, Hy.out, Hz.out]), rfl⟩

set_option maxHeartbeats 400000 in
theorem refUpd_any (c : Int) (s : ByteArray) (w : World) (h0 : 0 ≤ c) (h : c < 4294967296) (hs : s.size ≤ 1000000000) :
    Calls Try.prog 19 #[.int .u32 c, .string s] w fun e w' => e = .returned (.int .u32 (Crc.upd c.toNat s.data.toList : Nat)) ∧ w = w' := by
  have hx : bits .xor .u32 c 4294967295 = ((c.toNat ^^^ 4294967295 : Nat) : Int) := u32_xor c 4294967295 h0 h (by omega) (by omega)
  have hl : c.toNat ^^^ 4294967295 < 4294967296 := Nat.xor_lt_two_pow (n := 32) (by omega) (by omega)
  clear h
  generalize hy : c.toNat ^^^ 4294967295 = y at hx hl
  have Hy := kept hy; clear hy
  have Hl := kept hl; clear hl
  go_enter Try.func19, Try.ntmps19
  go_wp2
  clear hx
  go_loop [5, 6] (fun n i => ∃ k : Nat, k ≤ s.size ∧ i = .int .i64 k ∧ n = .int .u32 (Crc.reg y (s.data.toList.take k) : Nat)) (fun _ i => s.size - (intOf i).toNat)
  case atStart => exact ⟨0, by omega, rfl, rfl⟩
  case round =>
    obtain ⟨k, hk, rfl, rfl⟩ := hrel
    by_cases hlt : k < s.size
    · have hb : s.data.toList.take (k + 1) = s.data.toList.take k ++ [s[k]] := by
        rw [List.take_succ_eq_append_getElem (by simpa using hlt)]; rfl
      have Hr := kept (show Crc.reg y (s.data.toList.take (k + 1)) = Crc.byte (Crc.reg y (s.data.toList.take k)) s[k] by rw [hb, Crc.reg_append]; rfl)
      have Hz := kept (Crc.reg_lt (s.data.toList.take k) Hl.out)
      clear hb
      go_wp2_with (go_at_call 41; refine (turn_any _ _ _ Hz.out).mono ?_; rintro e w' ⟨rfl, rfl⟩)
      go_round
      case rel => exact ⟨k + 1, by omega, by go_num, by rw [Hr.out]⟩
      case measure => simp [intOf]; omega
    · have Hr := kept (show Crc.reg y (s.data.toList.take k) = Crc.reg y s.data.toList by rw [List.take_of_length_le (by simp; omega)])
      have Hz := kept (Crc.reg_lt (s.data.toList.take k) Hl.out)
      generalize hz : Crc.reg y (s.data.toList.take k) = z at *
      have Hz' := kept hz; clear hz
      go_wp2
      go_ret
      exact ⟨ret_int (by rw [show (4294967295 : Int) = ((4294967295 : Nat) : Int) from rfl, u32_xor_nat _ _ Hz.out (by omega), Crc.upd, Hy.out, Hr.out]), rfl⟩
theorem sum_u8 (x : Int) (b : UInt8) (h0 : 0 ≤ x) (h : x < 4294967296) : bits .xor .u32 x ((b.toNat : Int) % 4294967296) = ((x.toNat ^^^ b.toNat : Nat) : Int) := by
  have hb := b.toNat_lt
  rw [show (b.toNat : Int) % 4294967296 = (b.toNat : Int) by omega, u32_xor _ _ h0 h (by omega) (by omega)]; rfl

set_option maxHeartbeats 400000 in
theorem upd_any (c : Int) (s : ByteArray) (w : World) (h0 : 0 ≤ c) (h : c < 4294967296) (hs : s.size ≤ 1000000000) :
    Calls Try.prog 18 #[.int .u32 c, .string s] w fun e w' => e = .returned (.int .u32 (Crc.upd c.toNat s.data.toList : Nat)) ∧ w = w' := by
  have hx : bits .xor .u32 IntKind.u32.max c = ((c.toNat ^^^ 4294967295 : Nat) : Int) := by
    rw [show IntKind.u32.max = 4294967295 from rfl, u32_xor _ c (by omega) (by omega) h0 h, Nat.xor_comm]; rfl
  have hl : c.toNat ^^^ 4294967295 < 4294967296 := Nat.xor_lt_two_pow (n := 32) (by omega) (by omega)
  clear h
  generalize hy : c.toNat ^^^ 4294967295 = y at hx hl
  have Hy := kept hy; clear hy
  have Hl := kept hl; clear hl
  go_enter Try.func18, Try.ntmps18
  go_wp2
  clear hx
  go_loop [5, 12] (fun n i => ∃ k : Nat, k ≤ s.size ∧ i = .int .i64 k ∧ n = .int .u32 (Crc.reg y (s.data.toList.take k) : Nat)) (fun _ i => s.size - (intOf i).toNat)
  case atStart => exact ⟨0, by omega, rfl, rfl⟩
  case round =>
    obtain ⟨k, hk, rfl, rfl⟩ := hrel
    by_cases hlt : k < s.size
    · have hb : s.data.toList.take (k + 1) = s.data.toList.take k ++ [s[k]] := by
        rw [List.take_succ_eq_append_getElem (by simpa using hlt)]; rfl
      have Hr := kept (show Crc.reg y (s.data.toList.take (k + 1)) = Crc.byte (Crc.reg y (s.data.toList.take k)) s[k] by rw [hb, Crc.reg_append]; rfl)
      have hz := Crc.reg_lt (s.data.toList.take k) Hl.out
      have hx := sum_u8 (Crc.reg y (s.data.toList.take k) : Nat) s[k] (by omega) (by omega)
      rw [Int.toNat_natCast] at hx
      have hq : Crc.reg y (s.data.toList.take k) ^^^ s[k].toNat < 4294967296 := Nat.xor_lt_two_pow (n := 32) (by omega) (by have := s[k].toNat_lt; omega)
      clear hb hz
      generalize hy2 : Crc.reg y (s.data.toList.take k) ^^^ s[k].toNat = q at hx hq
      have Hq := kept hq; have Hy2 := kept hy2; clear hq hy2
      go_wp2
      clear hx
      go_loop [5, 21] (fun n i => ∃ j : Nat, j ≤ 8 ∧ i = .int .i64 j ∧ n = .int .u32 (Crc.turns j q : Nat)) (fun _ i => 8 - (intOf i).toNat)
      case atStart => exact ⟨0, by omega, rfl, rfl⟩
      case round =>
        obtain ⟨j, hj, rfl, rfl⟩ := hrel
        have Ht := kept (Crc.turns_lt j Hq.out)
        have ha := and_one Ht.out
        have hu : ((Crc.turns j q : Nat) : Int) < 4294967296 := by have := Ht.out; omega
        have hu0 : 0 ≤ ((Crc.turns j q : Nat) : Int) := by omega
        generalize hv : ((Crc.turns j q : Nat) : Int) = v at ha hu hu0
        have Hv := kept hv; clear hv
        by_cases hlj : j < 8
        · go_wp2
          all_goals
            go_round
            case rel => exact ⟨j + 1, by omega, by go_num, by rw [Crc.turns]; have hz := Hv.out; subst hz; first | exact turn1_odd ‹_› Ht.out | exact turn1_even ‹_›⟩
            case measure => simp [intOf]; omega
        · go_wp2
          go_round
          case rel => exact ⟨k + 1, by omega, by go_num, by rw [Hr.out, Crc.byte, Hy2.out, show 8 = j by omega, Hv.out]⟩
          case measure => simp [intOf]; omega
    · have Hr := kept (show Crc.reg y (s.data.toList.take k) = Crc.reg y s.data.toList by rw [List.take_of_length_le (by simp; omega)])
      have Hz := kept (Crc.reg_lt (s.data.toList.take k) Hl.out)
      generalize hz : Crc.reg y (s.data.toList.take k) = z at *
      have Hz' := kept hz; clear hz
      go_wp2
      go_ret
      exact ⟨ret_int (by rw [show IntKind.u32.max = ((4294967295 : Nat) : Int) from rfl, u32_xor_nat _ _ (by omega) Hz.out, Crc.upd, Hy.out, Nat.xor_comm, Hr.out]), rfl⟩
theorem four_bcells (n : Int) (h0 : 0 ≤ n) (h : n < 4294967296) :
    (bcells (Crc.four n.toNat)).toArray = #[.int .u8 (n % 256), .int .u8 (n / 256 % 256), .int .u8 (n / 65536 % 256), .int .u8 (n / 16777216)] := by
  simp only [bcells, Crc.four, List.map, UInt8.toNat_ofNat']
  congr 2
  · congr 1; omega
  · congr 1
    · congr 1; omega
    · congr 1
      · congr 1; omega
      · congr 2; omega

set_option maxHeartbeats 400000 in
theorem octets_any (n : Int) (w : World) (h0 : 0 ≤ n) (h : n < 4294967296) :
    Calls Try.prog 42 #[.int .u32 n] w fun e w' => e = .returned (.string ⟨(Crc.four n.toNat).toArray⟩) ∧ Below w.heap.size w w' := by
  have hc := (BytesAt.lit w 5 (Crc.four n.toNat)).conv (P := Try.prog) 50 9 4 Try.underlying50 Try.underlying5 Try.underlying9
  rw [four_bcells n h0 h, Crc.four_length] at hc
  go_enter Try.func42, Try.ntmps42
  go_wp2
  go_ret
  exact ⟨rfl, (Below.refl _ _).alloc (Nat.le_refl _) _⟩

theorem info_u8 : (Try.prog.info? 5).map (fun i => (i.zero, i.size, i.bytes)) = some (some (.int .u8 0), 1, 1) := by kernel_rfl
theorem four_take (n k : Nat) (h : k < 4) : (Crc.four n).take (k + 1) = (Crc.four n).take k ++ [UInt8.ofNat (n / 256 ^ k)] := by
  match k, h with
  | 0, _ => simp [Crc.four]
  | 1, _ => simp [Crc.four]
  | 2, _ => simp [Crc.four]
  | 3, _ => simp [Crc.four]

set_option maxHeartbeats 400000 in
theorem four_any (n : Int) (w : World) (h0 : 0 ≤ n) (h : n < 4294967296) :
    Calls Try.prog 43 #[.int .u32 n] w fun e w' => e = .returned (.string ⟨(Crc.four n.toNat).toArray⟩) ∧ Below w.heap.size w w' := by
  go_enter Try.func43, Try.ntmps43
  go_wp2
  go_loopw [0, 3, 4] (fun x v i wr => ∃ k : Nat, k ≤ 4 ∧ i = .int .i64 k ∧ x = .int .u32 (n / 256 ^ k) ∧ OwnsB wr w.heap.size 5 v ((Crc.four n.toNat).take k) ∧ Below w.heap.size w wr) (fun _ _ i _ => 4 - (intOf i).toNat)
  case atStart => exact ⟨0, by omega, rfl, by simp, OwnsB.nil _ _ _, Below.refl _ _⟩
  case round =>
    obtain ⟨k, hk, rfl, rfl, hown, hbel⟩ := hrel
    by_cases hlt : k < 4
    · have Hd := kept (show n / 256 ^ k / 256 = n / 256 ^ (k + 1) by rw [Int.pow_succ]; exact Int.ediv_ediv_of_nonneg (Int.pow_nonneg (by decide)))
      have Ht := kept (four_take n.toNat k hlt)
      have hx0 : 0 ≤ n / 256 ^ k := Int.ediv_nonneg h0 (Int.pow_nonneg (by decide))
      have hx1 : n / 256 ^ k < 4294967296 := by
        have := Int.ediv_le_self (256 ^ k) h0; omega
      have Hb := kept (show UInt8.ofNat (n.toNat / 256 ^ k) = UInt8.ofNat ((n / 256 ^ k) % 256).toNat by
        rw [← UInt8.toNat_inj, UInt8.toNat_ofNat', UInt8.toNat_ofNat']
        have e : (n / 256 ^ k).toNat = n.toNat / 256 ^ k := by
          obtain ⟨m, rfl⟩ := Int.eq_ofNat_of_zero_le h0
          rw [Int.toNat_natCast, show ((m : Int) / 256 ^ k) = ((m / 256 ^ k : Nat) : Int) by simp, Int.toNat_natCast]
        omega)
      have hlen : ((Crc.four n.toNat).take k).length ≤ 4 := by simp [Crc.four_length]; omega
      have hsz := hbel.size
      generalize hy : n / 256 ^ k = y at hx0 hx1
      have Hy := kept hy; clear hy h
      go_wp2_with (at_builtin; refine wpList_append_byte rfl _ _ 50 5 rfl Try.underlying50 info_u8 w.heap.size _ _ rfl (hown.below ((Below.refl _ _).alloc (Nat.le_refl _) _) (Nat.le_refl _)) (hbel.alloc hsz _) ⟨wr.heap.size, 0, none⟩ 1 (y % 256) rfl ?_ ?_ ?_ ?_ ?_ ?_)
      · simp
      · omega
      · omega
      · omega
      · simp; omega
      · intro v' w' hown' hbel' _
        clear hown hbel hlen hsz
        go_wp2
        go_roundw
        case rel => exact ⟨k + 1, by omega, by go_num, by rw [← Hd.out, Hy.out], by rw [Ht.out, Hb.out, Hy.out]; exact hown', hbel'⟩
        case measure => simp [intOf]; omega
    · obtain rfl : k = 4 := by omega
      have hc := hown.conv (P := Try.prog) 50 9 Try.underlying50 Try.underlying5 Try.underlying9
      rw [List.take_of_length_le (by simp [Crc.four_length])] at hc
      clear hown h0 h
      go_wp2
      go_ret
      exact ⟨rfl, hbel⟩
theorem ver_slice_take (s : ByteArray) (n : Nat) : (s.extract 0 n).data.toList = s.data.toList.take n := by simp

theorem ver_slice_drop (s : ByteArray) (n : Nat) : (s.extract n s.size).data.toList = s.data.toList.drop n := by
  simp; exact List.take_of_length_le (by simp)

theorem str_eq_list (s : ByteArray) : s = ⟨s.data.toList.toArray⟩ := by simp
end Go.Proofs.Ytlgpmcpkddgpmaa
