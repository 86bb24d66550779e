/- The walks of the packages seal and provisionref33: the key stream; the word of eight bytes. -/
import Derived.Test.YtlgpmcpkddgpmaaSealWalks2
namespace Go.Proofs.Ytlgpmcpkddgpmaa
open Go.RowKit

theorem num_step (l : List UInt8) (k : Nat) (hl : l.length ≤ 8) (hk : k < l.length) :
    IntKind.u64.wrap (IntKind.u64.wrap ((Crc.le (l.drop (k + 1)) : Nat) * 256) + IntKind.u64.wrap l[k].toNat) = (Crc.le (l.drop k) : Nat) := by
  have hb := l[k].toNat_lt
  have h1 := Crc.le_lt (l.drop k)
  have h2 : (l.drop k).length ≤ 8 := by simp; omega
  have h3 := pow8 (l.drop k).length h2
  have e : Crc.le (l.drop k) = l[k].toNat + 256 * Crc.le (l.drop (k + 1)) := by rw [List.drop_eq_getElem_cons hk, Crc.le]
  rw [wrap_byte, IntKind.wrap_u64, IntKind.wrap_u64]
  omega

set_option maxHeartbeats 400000 in
theorem number_any (s : ByteArray) (w : World) (h8 : s.size = 8) :
    Calls Try.prog 50 #[.string s] w fun e w' => e = .returned (.int .u64 (Seal.number s.data.toList : Nat)) ∧ w = w' := by
  have hl : s.data.toList.length = 8 := by simpa using h8
  have H0 := kept (show Seal.number s.data.toList = Crc.le (s.data.toList.drop 0) by rw [Seal.number, List.take_of_length_le (by omega)]; rfl)
  have H8 := kept (show Crc.le (s.data.toList.drop 8) = 0 by rw [List.drop_of_length_le (by omega)]; rfl)
  have Hl := kept hl
  have h8' : (8 : Int) ≤ s.size := by omega
  have Hs := kept h8
  clear h8 hl
  go_enter Try.func50, Try.ntmps50
  go_wp2
  go_loop [3, 4] (fun x i => ∃ (k : Nat) (z : Int), k ≤ 8 ∧ z = (k : Int) - 1 ∧ i = .int .i64 z ∧ x = .int .u64 (Crc.le (s.data.toList.drop k) : Nat)) (fun _ i => (intOf i + 1).toNat)
  case atStart => exact ⟨8, 7, by omega, by omega, rfl, by rw [H8.out]; rfl⟩
  case round =>
    obtain ⟨k, z, hk, hz, rfl, rfl⟩ := hrel
    cases k with
    | zero =>
      obtain rfl : z = -1 := by omega
      clear hz
      rw [← H0.out]
      go_wp2
      go_ret
      exact ⟨rfl, rfl⟩
    | succ k =>
      obtain rfl : z = (k : Int) := by omega
      clear hz
      have hk2 : (k : Int) < s.size := by omega
      have hk3 : k < s.size := by omega
      have Hn := kept (num_step s.data.toList k (by have := Hl.out; omega) (by have := Hl.out; omega))
      generalize hy : Crc.le (s.data.toList.drop (k + 1)) = y at *
      have Hy := kept hy; clear hy
      go_wp2
      go_round
      case rel => exact ⟨k, (k : Int) - 1, by omega, rfl, by go_num, by rw [← Hn.out]; rfl⟩
      case measure => simp [intOf]

theorem comb_step {w : World} {g : Nat} {e : TypeId} (n y : Int) (s : ByteArray) (l : List UInt8) (k : Nat) (hk : k < s.size) (hb : BytesAt w g e l) (hl : l.length = s.size)
    (ht : l.take k = (Seal.comb n 0 s.data.toList).take k) (hy : Seal.U64 y) (hw : y = Seal.word n (k / 8)) :
    ∃ l2 : List UInt8, l2.length = s.size ∧ l2.take (k + 1) = (Seal.comb n 0 s.data.toList).take (k + 1) ∧
      BytesAt (w.setCell ⟨g, k, none⟩ (.int .u8 (bits .xor .u8 (s[k].toNat : Int) (y / 2 ^ (8 * (k % 8)) % 256)))) g e l2 := by
  have hkl : k < s.data.toList.length := by simpa using hk
  have h1 : (s[k].toNat : Int) < 256 := by have := s[k].toNat_lt; omega
  have h2 := shr_byte y hy.lo (k % 8)
  have hkey : Seal.key n k = UInt8.ofNat (y.toNat / 2 ^ (8 * (k % 8))) := by rw [Seal.key, hw]
  have h3 : bits .xor .u8 (s[k].toNat : Int) (y / 2 ^ (8 * (k % 8)) % 256) = ((s[k] ^^^ Seal.key n k).toNat : Int) := by
    rw [← h2, ← hkey, u8_xor_nat _ _ s[k].toNat_lt (Seal.key n k).toNat_lt, UInt8.toNat_xor]
  refine ⟨l.set k (s[k] ^^^ Seal.key n k), by simpa using hl, ?_, by rw [h3]; exact hb.set k _⟩
  have hcl : k < (Seal.comb n 0 s.data.toList).length := by rw [Seal.comb_length]; exact hkl
  rw [List.take_succ_eq_append_getElem (by simpa [hl] using hk), List.take_set_of_le (by omega), ht, List.take_succ_eq_append_getElem hcl, Seal.comb_get n 0 _ k hkl]
  simp only [List.getElem_set_self, Nat.zero_add]; rfl
theorem word_eq (n : Int) (k : Nat) : Seal.mix (bits .xor .u64 n (Seal.mix ((k : Int) / 8 + 1))) = Seal.word n (k / 8) := rfl
theorem word_next {y n : Int} {k : Nat} (h : y = Seal.word n (k / 8)) : (k + 1) % 8 ≠ 0 → y = Seal.word n ((k + 1) / 8) := fun hk => by
  rw [h]; congr 1; omega

set_option maxHeartbeats 1000000 in
theorem combined_any (n : Int) (s : ByteArray) (w : World) (hs : s.size ≤ 1000000000) :
    Calls Try.prog 47 #[.int .u64 n, .string s] w fun e w' => e = .returned (.string ⟨(Seal.comb n 0 s.data.toList).toArray⟩) ∧ Below w.heap.size w w' := by
  obtain ⟨W1, hmk, hby, hbel, hsz⟩ := make_bytes (P := Try.prog) w s.size 50 5 Try.underlying50 info_u8 (by omega)
  have Hb := kept hby; have Hl := kept hbel
  clear hby hbel
  go_enter Try.func47, Try.ntmps47
  go_wp2
  clear hmk
  go_loopw [6, 13] (fun x i wr => ∃ (k : Nat) (y : Int) (l : List UInt8), k ≤ s.size ∧ i = .int .i64 k ∧ x = .int .u64 y ∧ Seal.U64 y ∧ (k % 8 ≠ 0 → y = Seal.word n (k / 8)) ∧ l.length = s.size ∧ l.take k = (Seal.comb n 0 s.data.toList).take k ∧ BytesAt wr w.heap.size 5 l ∧ Below w.heap.size w wr) (fun _ i _ => s.size - (intOf i).toNat)
  case atStart => exact ⟨0, 0, List.replicate s.size 0, by omega, rfl, rfl, ⟨by omega, by omega⟩, by omega, by simp, by simp, Hb.out, Hl.out⟩
  case round =>
    obtain ⟨k, y, l, hk, rfl, rfl, hy64, hyw, hll, htk, hby, hbel⟩ := hrel
    have Hb := kept hby; have Hl := kept hbel; have Hll := kept hll; have Htk := kept htk; have H64 := kept hy64; have Hyw := kept hyw
    clear hby hbel hll htk hy64 hyw
    by_cases hlt : k < s.size
    · have hlt2 : k < l.length := by rw [Hll.out]; exact hlt
      have hc := Hb.out.cell k hlt2
      have hf := Hb.out.free k hlt2
      have hin : (k : Int) < s.size := by omega
      have hsh : 8 * ((k : Int) % 8) ≤ 64 := by omega
      generalize l[k].toNat = q at hc
      clear hlt2
      by_cases h8 : k % 8 = 0
      · have h8' : ((k : Int) % 8 == 0) = true := by simp; omega
        have Hw := kept (word_eq n k)
        obtain ⟨l2, hl2, ht2, hb2⟩ := comb_step n (Seal.word n (k / 8)) s l k hlt Hb.out Hll.out Htk.out (Seal.word_u64 _ _) rfl
        have Hn := kept (word_next (rfl : Seal.word n (k / 8) = Seal.word n (k / 8)))
        have H6 := kept (Seal.word_u64 n (k / 8))
        generalize hv : Seal.word n (k / 8) = v at *
        have Hl2 := kept hl2; have Ht2 := kept ht2; have Hb2 := kept hb2; have Hv := kept hv
        clear h8 hl2 ht2 hb2 hv
        go_wp2_with fail
        refine (mix_any _ _).mono ?_; rintro e w' ⟨rfl, rfl⟩
        go_wp2_with fail
        refine (mix_any _ _).mono ?_; rintro e w' ⟨rfl, rfl⟩
        rw [Hw.out]
        go_wp2_with fail
        go_region
        go_wp2
        go_roundw
        case rel => exact ⟨k + 1, v, l2, by omega, by go_num, rfl, H6.out, Hn.out, Hl2.out, Ht2.out, Hb2.out, (Hl.out.setCell (Nat.le_refl _) _).drew⟩
        case measure => simp [intOf]; omega
      · have h8' : ((k : Int) % 8 == 0) = false := by simp; omega
        have Hw := kept (Hyw.out h8)
        obtain ⟨l2, hl2, ht2, hb2⟩ := comb_step n y s l k hlt Hb.out Hll.out Htk.out H64.out Hw.out
        have Hl2 := kept hl2; have Ht2 := kept ht2; have Hb2 := kept hb2
        clear h8 hl2 ht2 hb2
        go_wp2_with fail
        go_region
        go_wp2
        go_roundw
        case rel => exact ⟨k + 1, y, l2, by omega, by go_num, rfl, H64.out, word_next Hw.out, Hl2.out, Ht2.out, Hb2.out, (Hl.out.setCell (Nat.le_refl _) _).drew⟩
        case measure => simp [intOf]; omega
    · obtain rfl : k = s.size := by omega
      have hc := Hb.out.conv_of (P := Try.prog) 50 9 s.size s.size Hll.out Try.underlying50 Try.underlying5 Try.underlying9
      have Ht := kept (show l = Seal.comb n 0 s.data.toList by
        have := Htk.out
        rwa [List.take_of_length_le (by rw [Hll.out]; omega), List.take_of_length_le (by rw [Seal.comb_length]; simp)] at this)
      go_wp2
      go_ret
      exact ⟨ret_str Ht.out, Hl.out⟩
end Go.Proofs.Ytlgpmcpkddgpmaa
