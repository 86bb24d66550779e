/- The law SealDamage. -/
import Derived.Test.YtlgpmcpkddgpmaaSealLaws3
import Derived.Test.YtlgpmcpkddgpmaaCrcBurst
namespace Go.Proofs.Ytlgpmcpkddgpmaa
open Go.RowKit

/-- Behind k bits: the lowest k bits of the mask have been inverted from bit a on. -/
def MaskedTo (t : List UInt8) (a mask k : Nat) (x : List UInt8) : Prop := x.length = t.length ∧ Crc.le x = Crc.le t ^^^ 2 ^ a * (mask % 2 ^ k)
theorem MaskedTo.start (t : List UInt8) (a mask : Nat) : MaskedTo t a mask 0 t := ⟨rfl, by simp [Nat.mod_one]⟩
theorem mod_succ (mask k : Nat) : mask % 2 ^ (k + 1) = mask % 2 ^ k + 2 ^ k * (mask / 2 ^ k % 2) := by
  rw [Nat.pow_succ, Nat.mod_mul]
theorem MaskedTo.keep {t : List UInt8} {a mask k : Nat} {x : List UInt8} (h : MaskedTo t a mask k x) (hb : mask / 2 ^ k % 2 = 0) : MaskedTo t a mask (k + 1) x := by
  refine ⟨h.1, ?_⟩
  rw [mod_succ, hb, Nat.mul_zero, Nat.add_zero]; exact h.2
theorem MaskedTo.flip {t : List UInt8} {a mask k : Nat} {x : List UInt8} (h : MaskedTo t a mask k x) (hb : mask / 2 ^ k % 2 = 1) (q r : Nat) (hq : (a + k) / 8 = q) (hr : (a + k) % 8 = r) (hl : q < x.length) :
    MaskedTo t a mask (k + 1) (x.set q (x[q] ^^^ UInt8.ofNat (2 ^ r))) := by
  refine ⟨by simpa using h.1, ?_⟩
  rw [mod_succ, hb, Nat.mul_one]
  exact Crc.le_flip t x a k _ q r hq hr hl (Nat.mod_lt _ (Nat.pow_pos (by omega))) h.2
theorem masked_bad (l x : List UInt8) (a mask : Nat) (ha : a ≤ 8 * (l.length + 4)) (hm : mask < 4294967296) (hm0 : mask ≠ 0) (h : MaskedTo (Crc.app l) a mask 32 x) : Crc.ver x = ([], 20) :=
  burst_bad l x a ha ⟨h.1, mask, hm, by rw [h.2, Nat.mod_eq_of_lt (by simpa using hm)], (decide_eq_true hm0).symm⟩

set_option maxRecDepth 100000 in
set_option maxHeartbeats 2000000 in
theorem sealDamage_main (s p : ByteArray) (a : Int) (mask : Nat) (h1 : s.size ≤ 200) (h2 : p.size ≤ 200) (ha0 : 0 ≤ a) (ha1 : a < 65536) (hm : mask < 4294967296) (hm0 : mask ≠ 0) (w : World)
    (hcs : Seal.check s.data.toList = 0) :
    Calls Try.prog 13 #[.string s, .string p, .int .u16 a, .int .u32 mask] w fun e w' => e = .returned (.bool true) ∧ Below w.heap.size w w' := by
  have Hcs := kept hcs
  have hn : Seal.U64 a := ⟨ha0, by omega⟩
  have Hn := kept hn
  have hpl : p.data.toList.length ≤ 1048576 := by rw [len_data]; omega
  have He := kept (Seal.enc_ok s.data.toList a p.data.toList hcs hpl)
  have hl : (Crc.app (Seal.body s.data.toList a p.data.toList)).length = 24 + p.size := by
    rw [Crc.app, List.length_append, Crc.four_length, (Seal.body_parts _ _ _).1, len_data]; omega
  have hbl : (Seal.body s.data.toList a p.data.toList).length = 20 + p.size := by rw [(Seal.body_parts _ _ _).1, len_data]
  generalize hbd : Seal.body s.data.toList a p.data.toList = bd at *
  obtain ⟨t, ht⟩ : ∃ t : ByteArray, t = ⟨(Crc.app bd).toArray⟩ := ⟨_, rfl⟩
  have Ht := kept ht.symm
  have htv : t.data.toList = Crc.app bd := by rw [ht]
  have hts : t.size = 24 + p.size := by rw [ht, size_mk, hl]
  have Htv := kept htv
  have hcmp : ((t.size : Int) == 24 + (p.size : Int)) = true := by rw [hts]; simp
  obtain ⟨f, hf⟩ : ∃ f : Int, a % (8 * (t.size : Int) - 31) = f := ⟨_, rfl⟩
  have hf0 : 0 ≤ f := by rw [← hf]; exact Int.emod_nonneg _ (by omega)
  have hf1 : f < 8 * (t.size : Int) - 31 := by rw [← hf]; exact Int.emod_lt_of_pos _ (by omega)
  have ht0 : 24 ≤ (t.size : Int) := by omega
  have ht1 : (t.size : Int) ≤ 224 := by omega
  have Hts := kept hts; have Hbl := kept hbl; have Hm := kept hm; have Hm0 := kept hm0; have H2 := kept h2
  have h2' : (p.size : Int) ≤ 200 := by omega
  have hmz : ((mask : Int) == 0) = false := by simp; omega
  have hmz2 : ¬ (mask : Int) = 0 := by omega
  have ha1' : a ≤ 65535 := by omega
  obtain ⟨M, hM⟩ : ∃ M : Int, (mask : Int) = M := ⟨_, rfl⟩
  have hM0 : 0 ≤ M := by omega
  have hM1 : M < 4294967296 := by omega
  rw [hM] at hmz hmz2
  rw [hM]
  have HM := kept hM
  clear hcs hpl hl hbl hbd ht htv hts hm hm0 hM hn ha1 h2
  go_enter Try.func13, Try.ntmps13
  go_wp2_with fail
  refine (few_yes _ _ _ h1 (by have := H2.out; omega)).mono ?_; rintro e w1 ⟨rfl, rfl⟩
  go_wp2_with fail
  refine (check_at _ _ _ (by omega) Hcs.out).mono ?_; rintro e w1 ⟨rfl, rfl⟩
  go_wp2_with fail
  refine (enc_at _ _ _ _ _ _ (by omega) Hn.out (by have := H2.out; omega) He.out).mono ?_; rintro e w1 ⟨rfl, b1⟩
  rw [Ht.out]
  obtain ⟨cap, W1, hconv, hcap, hby, hbel, hsz⟩ := bytes_of (P := Try.prog) w1 t 9 50 5 Try.underlying9 Try.underlying50 Try.underlying5
  have Hb := kept hby; have Hl := kept hbel; have B1 := kept b1
  clear hby hbel hcap b1
  go_wp2_with fail
  rw [hf]
  have HF := kept hf
  clear hf hcmp hmz hmz2 hconv
  go_loopw [3, 13] (fun x i wr => ∃ (k : Nat) (l : List UInt8), k ≤ 32 ∧ i = .int .i64 k ∧ x = .int .u32 (mask / 2 ^ k : Nat) ∧ MaskedTo t.data.toList f.toNat mask k l ∧ BytesAt wr w1.heap.size 5 l ∧ Below w1.heap.size w1 wr) (fun _ i _ => 32 - (intOf i).toNat)
  case atStart => exact ⟨0, t.data.toList, by omega, rfl, by rw [Nat.pow_zero, Nat.div_one, HM.out], MaskedTo.start _ _ _, Hb.out, Hl.out⟩
  case round =>
    obtain ⟨k, l, hk, rfl, rfl, hfl, hby, hbel⟩ := hrel
    have Hf := kept hfl; have Hb := kept hby; have Hl := kept hbel
    have Hll := kept (show l.length = t.size by rw [hfl.1]; simp)
    clear hfl hby hbel
    by_cases hlt : k < 32
    · obtain ⟨q, hq⟩ : ∃ q : Nat, (f + (k : Int)) / 8 = (q : Int) := ⟨((f + k) / 8).toNat, by omega⟩
      obtain ⟨r, hr⟩ : ∃ r : Nat, (f + (k : Int)) % 8 = (r : Int) := ⟨((f + k) % 8).toNat, by omega⟩
      have Hq := kept (show (f.toNat + k) / 8 = q by omega)
      have Hr := kept (show (f.toNat + k) % 8 = r by omega)
      have hr8 : r < 8 := by omega
      have hin' : (q : Int) < t.size := by omega
      have hin2 : q < l.length := by rw [Hll.out]; omega
      have Hd := kept (show mask / 2 ^ (k + 1) = mask / 2 ^ k / 2 by rw [Nat.pow_succ, Nat.div_div_eq_div_mul])
      have hmk : mask / 2 ^ k < 4294967296 := Nat.lt_of_le_of_lt (Nat.div_le_self _ _) Hm.out
      obtain ⟨mk, hmk2⟩ : ∃ mk : Int, ((mask / 2 ^ k : Nat) : Int) = mk := ⟨_, rfl⟩
      have hmk0 : 0 ≤ mk := by rw [← hmk2]; exact Int.natCast_nonneg _
      have hmk1 : mk < 4294967296 := by rw [← hmk2]; exact Int.ofNat_lt.2 hmk
      have Hmk := kept hmk2
      rw [hmk2]
      clear hmk hmk2
      have hcell := Hb.out.cell q hin2
      have hfree := Hb.out.free q hin2
      have hxor := xor_u8 l[q] r hr8
      have hset := Hb.out.set q (l[q] ^^^ UInt8.ofNat (2 ^ r))
      have Hkeep := kept (fun h => Hf.out.keep h : mask / 2 ^ k % 2 = 0 → MaskedTo t.data.toList f.toNat mask (k + 1) l)
      have Hflip := kept (fun h => Hf.out.flip h q r Hq.out Hr.out hin2 : mask / 2 ^ k % 2 = 1 → MaskedTo t.data.toList f.toNat mask (k + 1) (l.set q (l[q] ^^^ UInt8.ofNat (2 ^ r))))
      have hv0 : (0 : Int) ≤ ((l[q] ^^^ UInt8.ofNat (2 ^ r)).toNat : Int) := Int.natCast_nonneg _
      have hv1 : ((l[q] ^^^ UInt8.ofNat (2 ^ r)).toNat : Int) < 256 := by have := (l[q] ^^^ UInt8.ofNat (2 ^ r)).toNat_lt; omega
      have hu0 : (0 : Int) ≤ (l[q].toNat : Int) := Int.natCast_nonneg _
      have hu1 : (l[q].toNat : Int) < 256 := by have := l[q].toNat_lt; omega
      generalize ((l[q] ^^^ UInt8.ofNat (2 ^ r)).toNat : Int) = v at hxor hset hv0 hv1
      generalize (l[q].toNat : Int) = u at hxor hcell hu0 hu1
      generalize l.set q (l[q] ^^^ UInt8.ofNat (2 ^ r)) = l2 at hset Hflip
      have Hset := kept hset; have Hxor := kept hxor; have Hby := kept Hb.out
      clear hset hin2 hxor Hf
      by_cases hbit : mk % 2 = 1
      · have hbit' : (mk % 2 == 1) = true := by simpa using hbit
        have Hfl := kept (Hflip.out (by have := Hmk.out; generalize mask / 2 ^ k = z at this; omega))
        clear hbit Hflip Hkeep
        go_wp2
        go_loop [14, 15] (fun x i => ∃ j : Nat, j ≤ r ∧ i = .int .i64 j ∧ x = .int .u8 (2 ^ j)) (fun _ i => r - (intOf i).toNat)
        case atStart => exact ⟨0, by omega, rfl, by simp⟩
        case round =>
          obtain ⟨j, hj, rfl, rfl⟩ := hrel
          by_cases hjr : j < r
          · have hp0 : (0 : Int) ≤ 2 ^ j := Int.pow_nonneg (by decide)
            have hp1 : (2 : Int) ^ j ≤ 64 := by
              have := Nat.pow_le_pow_right (n := 2) (by omega) (show j ≤ 6 by omega)
              rw [show ((2 : Int) ^ j) = ((2 ^ j : Nat) : Int) by simp]; omega
            have Hs := kept (show (2 : Int) ^ j * 2 = 2 ^ (j + 1) by rw [Int.pow_succ])
            generalize hy : (2 : Int) ^ j = y at hp0 hp1
            have Hy2 := kept hy; clear hy
            go_wp2
            go_round
            case rel => exact ⟨j + 1, by omega, by go_num, by rw [← Hs.out, Hy2.out]⟩
            case measure => simp [intOf]; omega
          · obtain rfl : j = r := by omega
            have hxor := Hxor.out
            generalize hy : (2 : Int) ^ j = y at hxor
            have Hy2 := kept hy; clear hy
            go_wp2
            go_roundw
            case rel => exact ⟨k + 1, l2, by omega, by go_num, by rw [Hd.out]; have := Hmk.out; generalize mask / 2 ^ k = z at this; congr 1; omega, Hfl.out, Hset.out, Hl.out.setCell (Nat.le_refl _) _⟩
            case measure => simp [intOf]; omega
      · have hbit' : (mk % 2 == 1) = false := by simpa using hbit
        have Hfl := kept (Hkeep.out (by have := Hmk.out; generalize mask / 2 ^ k = z at this; omega))
        clear hbit Hflip Hkeep hcell hfree Hset Hxor
        go_wp2
        go_loop [14, 15] (fun x i => ∃ j : Nat, j ≤ r ∧ i = .int .i64 j ∧ x = .int .u8 (2 ^ j)) (fun _ i => r - (intOf i).toNat)
        case atStart => exact ⟨0, by omega, rfl, by simp⟩
        case round =>
          obtain ⟨j, hj, rfl, rfl⟩ := hrel
          by_cases hjr : j < r
          · have hp0 : (0 : Int) ≤ 2 ^ j := Int.pow_nonneg (by decide)
            have hp1 : (2 : Int) ^ j ≤ 64 := by
              have := Nat.pow_le_pow_right (n := 2) (by omega) (show j ≤ 6 by omega)
              rw [show ((2 : Int) ^ j) = ((2 ^ j : Nat) : Int) by simp]; omega
            have Hs := kept (show (2 : Int) ^ j * 2 = 2 ^ (j + 1) by rw [Int.pow_succ])
            generalize hy : (2 : Int) ^ j = y at hp0 hp1
            have Hy2 := kept hy; clear hy
            go_wp2
            go_round
            case rel => exact ⟨j + 1, by omega, by go_num, by rw [← Hs.out, Hy2.out]⟩
            case measure => simp [intOf]; omega
          · obtain rfl : j = r := by omega
            generalize hy : (2 : Int) ^ j = y
            go_wp2
            go_roundw
            case rel => exact ⟨k + 1, l, by omega, by go_num, by rw [Hd.out]; have := Hmk.out; generalize mask / 2 ^ k = z at this; congr 1; omega, Hfl.out, Hby.out, Hl.out⟩
            case measure => simp [intOf]; omega
    · obtain rfl : k = 32 := by omega
      have hc := Hb.out.conv_of (P := Try.prog) 50 9 t.size cap Hll.out Try.underlying50 Try.underlying5 Try.underlying9
      have Hver := kept (masked_bad bd l f.toNat mask (by rw [Hbl.out]; have := Hts.out; omega) Hm.out Hm0.out (by rw [← Htv.out]; exact Hf.out))
      have Hdam := kept (Seal.damaged s.data.toList l Hcs.out Hver.out)
      have Hls := kept (show (⟨l.toArray⟩ : ByteArray).size ≤ 1000000 by rw [size_mk, Hll.out]; omega)
      go_wp2_with fail
      refine (dec_at _ _ _ _ _ (by omega) Hls.out Hdam.out.1).mono ?_; rintro e w2 ⟨rfl, b2⟩
      have hc2 := (Hb.out.below b2 Hb.out.lt).conv_of (P := Try.prog) 50 9 t.size cap Hll.out Try.underlying50 Try.underlying5 Try.underlying9
      have B2 := kept b2
      clear b2
      go_wp2_with fail
      refine (nonce_at _ _ _ _ Hls.out Hdam.out.2).mono ?_; rintro e w3 ⟨rfl, b3⟩
      go_wp2_with fail
      refine (awake33_any _).mono ?_; rintro e w4 ⟨rfl, b4⟩
      go_wp2
      go_ret
      exact ⟨rfl, bthen (bthen (bthen (bthen B1.out Hl.out) B2.out) b3) b4⟩

set_option maxRecDepth 100000 in
set_option maxHeartbeats 2000000 in
theorem sealDamage_awake (s p : ByteArray) (a m : Int) (hs : s.size ≤ maxLen) (hp : p.size ≤ maxLen) (hm0 : 0 ≤ m) (hm1 : m < 4294967296) (w : World)
    (h : ¬ (s.size ≤ 200 ∧ p.size ≤ 200) ∨ m = 0 ∨ Seal.check s.data.toList ≠ 0) :
    Calls Try.prog 13 #[.string s, .string p, .int .u16 a, .int .u32 m] w fun e w' => e = .returned (.bool true) ∧ Below w.heap.size w w' := by
  by_cases hf : s.size ≤ 200 ∧ p.size ≤ 2100
  · obtain ⟨h1, h2⟩ := hf
    by_cases hp2 : p.size ≤ 200
    · by_cases hmz : m = 0
      · subst hmz
        clear h hs hp hm0 hm1
        go_enter Try.func13, Try.ntmps13
        go_wp2_with fail
        refine (few_yes _ _ _ h1 h2).mono ?_; rintro e w1 ⟨rfl, rfl⟩
        go_wp2_with fail
        refine (awake33_any _).mono ?_; rintro e w4 ⟨rfl, b4⟩
        go_wp2
        go_ret
        exact ⟨rfl, b4⟩
      · have hc : Seal.check s.data.toList ≠ 0 := by
          rcases h with h | h | h
          · exact absurd ⟨h1, hp2⟩ h
          · exact absurd h hmz
          · exact h
        have hc' : (Seal.check s.data.toList == 0) = false := beq_eq_false_iff_ne.2 hc
        have hm' : (m == 0) = false := beq_eq_false_iff_ne.2 hmz
        have hcn : (Seal.check s.data.toList != 0) = true := bne_iff_ne.2 hc
        generalize hq : Seal.check s.data.toList = q at *
        have Hq := kept hq
        clear h hs hp hq hm0 hm1
        go_enter Try.func13, Try.ntmps13
        go_wp2_with fail
        refine (few_yes _ _ _ h1 h2).mono ?_; rintro e w1 ⟨rfl, rfl⟩
        go_wp2_with fail
        refine (check_at _ _ _ (by omega) Hq.out).mono ?_; rintro e w1 ⟨rfl, rfl⟩
        go_wp2_with fail
        refine (awake33_any _).mono ?_; rintro e w4 ⟨rfl, b4⟩
        go_wp2
        go_ret
        exact ⟨rfl, b4⟩
    · clear h hs hp hm0 hm1
      go_enter Try.func13, Try.ntmps13
      go_wp2_with fail
      refine (few_yes _ _ _ h1 h2).mono ?_; rintro e w1 ⟨rfl, rfl⟩
      go_wp2_with fail
      refine (awake33_any _).mono ?_; rintro e w4 ⟨rfl, b4⟩
      go_wp2
      go_ret
      exact ⟨rfl, b4⟩
  · have H := kept hf; have Hs := kept hs; have Hp := kept hp
    clear h hf hs hp hm0 hm1
    go_enter Try.func13, Try.ntmps13
    go_wp2_with fail
    refine (few_no _ _ _ Hs.out Hp.out H.out).mono ?_; rintro e w1 ⟨rfl, rfl⟩
    go_wp2_with fail
    refine (awake33_any _).mono ?_; rintro e w4 ⟨rfl, b4⟩
    go_wp2
    go_ret
    exact ⟨rfl, b4⟩

theorem sealDamage_walk (s p : ByteArray) (a m : Int) (hs : s.size ≤ maxLen) (hp : p.size ≤ maxLen) (ha : (Lit.int .u16 a).wf = true) (hm : (Lit.int .u32 m).wf = true) (w : World) :
    Calls Try.prog 13 #[.string s, .string p, .int .u16 a, .int .u32 m] w fun e w' => e = .returned (.bool true) ∧ Below w.heap.size w w' := by
  have ha := wf_u16 ha
  have hm := wf_u32 hm
  by_cases hf : s.size ≤ 200 ∧ p.size ≤ 200
  · by_cases hmz : m = 0
    · exact sealDamage_awake s p a m hs hp hm.1 hm.2 w (.inr (.inl hmz))
    · by_cases hcs : Seal.check s.data.toList = 0
      · obtain ⟨M, rfl⟩ := Int.eq_ofNat_of_zero_le hm.1
        exact sealDamage_main s p a M hf.1 hf.2 ha.1 ha.2 (by omega) (by omega) w hcs
      · exact sealDamage_awake s p a m hs hp hm.1 hm.2 w (.inr (.inr hcs))
  · exact sealDamage_awake s p a m hs hp hm.1 hm.2 w (.inl hf)
end Go.Proofs.Ytlgpmcpkddgpmaa
