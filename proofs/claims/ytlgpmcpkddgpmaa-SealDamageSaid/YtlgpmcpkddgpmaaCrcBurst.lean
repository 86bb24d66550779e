/- changed of the package provisionlaw03: at most 32 consecutive bits are inverted. -/
import Derived.Test.YtlgpmcpkddgpmaaCrcLaws2
namespace Go.Proofs.Ytlgpmcpkddgpmaa
open Go.RowKit
namespace Crc

theorem two_mul_xor (k a b : Nat) : 2 ^ k * (a ^^^ b) = 2 ^ k * a ^^^ 2 ^ k * b := by
  apply Nat.eq_of_testBit_eq; intro i
  simp only [Nat.testBit_xor, Nat.testBit_two_pow_mul]
  by_cases h : i ≥ k <;> simp [h]
theorem add_pow_xor (i m : Nat) (h : m < 2 ^ i) : m + 2 ^ i = m ^^^ 2 ^ i := by
  have h1 := Nat.two_pow_add_eq_or_of_lt h 1
  rw [Nat.mul_one] at h1
  rw [Nat.add_comm, h1]
  apply Nat.eq_of_testBit_eq; intro j
  simp only [Nat.testBit_xor, Nat.testBit_or, Nat.testBit_two_pow]
  by_cases hj : i = j
  · subst hj; simp [Nat.testBit_lt_two_pow h]
  · simp [hj]
/-- One byte of a string, changed. -/
theorem le_set (l : List UInt8) (i : Nat) (x : UInt8) (h : i < l.length) : le (l.set i (l[i] ^^^ x)) = le l ^^^ 2 ^ (8 * i) * x.toNat := by
  induction l generalizing i with
  | nil => simp at h
  | cons b l ih =>
    have hb := b.toNat_lt
    cases i with
    | zero =>
      have hx := (b ^^^ x).toNat_lt
      simp only [List.set_cons_zero, List.getElem_cons_zero, le]
      rw [add_eq_xor _ _ (by omega), add_eq_xor _ _ (by omega), UInt8.toNat_xor, Nat.mul_zero, Nat.pow_zero, Nat.one_mul, Nat.xor_assoc, Nat.xor_assoc, Nat.xor_comm x.toNat]
    | succ i =>
      simp only [List.set_cons_succ, List.getElem_cons_succ, le]
      rw [add_eq_xor _ _ (by omega), add_eq_xor _ _ (by omega), ih i (by simpa using h), show (256 : Nat) = 2 ^ 8 from rfl, two_mul_xor, ← Nat.mul_assoc, ← Nat.pow_add, Nat.xor_assoc, show 8 + 8 * i = 8 * (i + 1) by omega]
/-- A bit more of the change. -/
theorem le_flip (t l : List UInt8) (a i m q r : Nat) (hq : (a + i) / 8 = q) (hr : (a + i) % 8 = r) (hl : q < l.length) (hm : m < 2 ^ i) (h : le l = le t ^^^ 2 ^ a * m) :
    le (l.set q (l[q] ^^^ UInt8.ofNat (2 ^ r))) = le t ^^^ 2 ^ a * (m + 2 ^ i) := by
  have hr8 : r < 8 := by omega
  have hx : (UInt8.ofNat (2 ^ r)).toNat = 2 ^ r := by
    rw [UInt8.toNat_ofNat']
    exact Nat.mod_eq_of_lt (Nat.pow_lt_pow_right (by omega) hr8)
  rw [le_set l q _ hl, hx, h, add_pow_xor i m hm, two_mul_xor, Nat.xor_assoc, ← Nat.pow_add, ← Nat.pow_add]
  congr 3; omega
end Crc

/-- What `changed` makes of a string: of one length, another by at most 32 bits from bit a on, and whether by any. -/
def Flipped (t : List UInt8) (a : Nat) (x : List UInt8) (any : Bool) : Prop := x.length = t.length ∧ ∃ m, m < 4294967296 ∧ Crc.le x = Crc.le t ^^^ 2 ^ a * m ∧ any = decide (m ≠ 0)
/-- The same behind i bits. -/
def FlippedTo (t : List UInt8) (a i : Nat) (x : List UInt8) (any : Bool) : Prop := x.length = t.length ∧ ∃ m, m < 2 ^ i ∧ Crc.le x = Crc.le t ^^^ 2 ^ a * m ∧ any = decide (m ≠ 0)

theorem FlippedTo.start (t : List UInt8) (a : Nat) : FlippedTo t a 0 t false := ⟨rfl, 0, by simp, by simp, by simp⟩
theorem FlippedTo.keep {t : List UInt8} {a i : Nat} {x : List UInt8} {any : Bool} (h : FlippedTo t a i x any) : FlippedTo t a (i + 1) x any := by
  obtain ⟨h1, m, h2, h3⟩ := h
  exact ⟨h1, m, by rw [Nat.pow_succ]; omega, h3⟩
theorem FlippedTo.flip {t : List UInt8} {a i : Nat} {x : List UInt8} {any : Bool} (h : FlippedTo t a i x any) (q r : Nat) (hq : (a + i) / 8 = q) (hr : (a + i) % 8 = r) (hl : q < x.length) :
    FlippedTo t a (i + 1) (x.set q (x[q] ^^^ UInt8.ofNat (2 ^ r))) true := by
  obtain ⟨h1, m, h2, h3, _⟩ := h
  have hp : 0 < 2 ^ i := Nat.pow_pos (by omega)
  exact ⟨by simpa using h1, m + 2 ^ i, by rw [Nat.pow_succ]; omega, Crc.le_flip t x a i m q r hq hr hl h2 h3, by
    exact (decide_eq_true (by omega)).symm⟩

theorem xor_u8 (b : UInt8) (r : Nat) (hr : r < 8) : bits .xor .u8 (b.toNat : Int) (2 ^ r : Int) = ((b ^^^ UInt8.ofNat (2 ^ r)).toNat : Int) := by
  have hb := b.toNat_lt
  have hp : 2 ^ r < 256 := by
    have := Nat.pow_lt_pow_right (a := 2) (by omega) hr; simpa using this
  rw [show (2 ^ r : Int) = ((2 ^ r : Nat) : Int) by simp, u8_xor_nat _ _ (by omega) hp, UInt8.toNat_xor, UInt8.toNat_ofNat', Nat.mod_eq_of_lt (by simpa using hp)]

def ChangedPost (t : List UInt8) (a : Nat) (w : World) (e : Ending) (w' : World) : Prop :=
  ∃ x any, e = .returned (.tuple #[.string ⟨x.toArray⟩, .bool any]) ∧ Flipped t a x any ∧ Below w.heap.size w w'

set_option maxHeartbeats 1000000 in
theorem changed_any (s : ByteArray) (a m : Int) (w : World) (ha : 0 ≤ a) (ha2 : a ≤ 1000000) (hm : 0 ≤ m) (hm2 : m < 4294967296) :
    Calls Try.prog 24 #[.string s, .int .i64 a, .int .u32 m] w (ChangedPost s.data.toList a.toNat w) := by
  obtain ⟨cap, W1, hconv, hcap, hby, hbel, hsz⟩ := bytes_of (P := Try.prog) w s 9 50 5 Try.underlying9 Try.underlying50 Try.underlying5
  have Hb := kept hby; have Hl := kept hbel
  clear hby hbel hcap
  go_enter Try.func24, Try.ntmps24
  go_wp2
  clear hconv
  go_loopw [2, 9, 10] (fun x y i wr => ∃ (k : Nat) (mk : Int) (any : Bool) (l : List UInt8), k ≤ 32 ∧ i = .int .i64 k ∧ x = .int .u32 mk ∧ 0 ≤ mk ∧ mk < 4294967296 ∧ y = .bool any ∧ FlippedTo s.data.toList a.toNat k l any ∧ BytesAt wr w.heap.size 5 l ∧ Below w.heap.size w wr) (fun _ _ i _ => 32 - (intOf i).toNat)
  case atStart => exact ⟨0, m, false, s.data.toList, by omega, rfl, rfl, hm, hm2, rfl, FlippedTo.start _ _, Hb.out, Hl.out⟩
  case round =>
    obtain ⟨k, mk, any, l, hk, rfl, rfl, hk0, hk1, rfl, hfl, hby, hbel⟩ := hrel
    have Hf := kept hfl; have Hb := kept hby; have Hl := kept hbel
    have hll : l.length = s.size := by rw [hfl.1]; simp
    have Hll := kept hll
    have Hy := kept Hb.out
    clear hfl hby hbel hll Hb
    by_cases hlt : k < 32
    · obtain ⟨q, hq⟩ : ∃ q : Nat, (a + (k : Int)) / 8 = (q : Int) := ⟨((a + k) / 8).toNat, by omega⟩
      obtain ⟨r, hr⟩ : ∃ r : Nat, (a + (k : Int)) % 8 = (r : Int) := ⟨((a + k) % 8).toNat, by omega⟩
      have Hq := kept (show (a.toNat + k) / 8 = q by omega)
      have Hr := kept (show (a.toNat + k) % 8 = r by omega)
      have hr8 : r < 8 := by omega
      by_cases hbit : mk % 2 = 1
      · have hbit' : (mk % 2 == 1) = true := by simpa using hbit
        clear hbit
        by_cases hin : q < s.size
        · have hin' : (q : Int) < s.size := by omega
          have hin2 : q < l.length := by rw [Hll.out]; exact hin
          have hcell := Hy.out.cell q hin2
          have hfree := Hy.out.free q hin2
          have hxor := xor_u8 l[q] r hr8
          have hset := Hy.out.set q (l[q] ^^^ UInt8.ofNat (2 ^ r))
          have hfl := Hf.out.flip q r Hq.out Hr.out hin2
          have hv0 : (0 : Int) ≤ ((l[q] ^^^ UInt8.ofNat (2 ^ r)).toNat : Int) := by omega
          have hv1 : ((l[q] ^^^ UInt8.ofNat (2 ^ r)).toNat : Int) < 256 := by have := (l[q] ^^^ UInt8.ofNat (2 ^ r)).toNat_lt; omega
          have hu0 : (0 : Int) ≤ (l[q].toNat : Int) := by omega
          have hu1 : (l[q].toNat : Int) < 256 := by have := l[q].toNat_lt; omega
          generalize ((l[q] ^^^ UInt8.ofNat (2 ^ r)).toNat : Int) = v at hxor hset hv0 hv1
          generalize (l[q].toNat : Int) = u at hxor hcell hu0 hu1
          generalize l.set q (l[q] ^^^ UInt8.ofNat (2 ^ r)) = l2 at hset hfl
          have Hfl := kept hfl; have Hset := kept hset; have Hxor := kept hxor
          clear hin hfl hset hin2 hxor Hy Hf
          go_wp2
          go_loop [12, 13] (fun x i => ∃ j : Nat, j ≤ r ∧ i = .int .i64 j ∧ x = .int .u8 (2 ^ j)) (fun _ i => r - (intOf i).toNat)
          case atStart => exact ⟨0, by omega, rfl, by simp⟩
          case round =>
            obtain ⟨j, hj, rfl, rfl⟩ := hrel
            by_cases hjr : j < r
            · have hp0 : (0 : Int) ≤ 2 ^ j := Int.pow_nonneg (by decide)
              have hp1 : (2 : Int) ^ j ≤ 64 := by
                have := Nat.pow_le_pow_right (n := 2) (by omega) (show j ≤ 6 by omega)
                rw [show ((2 : Int) ^ j) = ((2 ^ j : Nat) : Int) by simp]; omega
              have Hs := kept (show (2 : Int) ^ j * 2 = 2 ^ (j + 1) by rw [Int.pow_succ])
              generalize hy : (2 : Int) ^ j = y at hp0 hp1
              have Hy2 := kept hy; clear hy
              go_wp2
              go_round
              case rel => exact ⟨j + 1, by omega, by go_num, by rw [← Hs.out, Hy2.out]⟩
              case measure => simp [intOf]; omega
            · obtain rfl : j = r := by omega
              have hxor := Hxor.out
              generalize hy : (2 : Int) ^ j = y at hxor
              have Hy2 := kept hy; clear hy
              go_wp2
              go_roundw
              case rel => exact ⟨k + 1, mk / 2, true, l2, by omega, by go_num, rfl, by omega, by omega, rfl, Hfl.out, Hset.out, Hl.out.setCell (Nat.le_refl _) _⟩
              case measure => simp [intOf]; omega
        · have hin' : ¬ (q : Int) < s.size := by omega
          clear hin
          go_wp2
          go_roundw
          case rel => exact ⟨k + 1, mk / 2, any, l, by omega, by go_num, rfl, by omega, by omega, rfl, Hf.out.keep, Hy.out, Hl.out⟩
          case measure => simp [intOf]; omega
      · have hbit' : (mk % 2 == 1) = false := by simpa using hbit
        clear hbit
        go_wp2
        all_goals
          go_roundw
          case rel => exact ⟨k + 1, mk / 2, any, l, by omega, by go_num, rfl, by omega, by omega, rfl, Hf.out.keep, Hy.out, Hl.out⟩
          case measure => simp [intOf]; omega
    · obtain rfl : k = 32 := by omega
      have hc := Hy.out.conv_of (P := Try.prog) 50 9 s.size cap Hll.out Try.underlying50 Try.underlying5 Try.underlying9
      clear hlt
      go_wp2
      go_ret2
      exact ⟨l, any, rfl, by
        obtain ⟨h1, m, h2, h3⟩ := Hf.out
        exact ⟨h1, m, by simpa using h2, h3⟩, Hl.out⟩

theorem burst_bad (l x : List UInt8) (a : Nat) (ha : a ≤ 8 * (l.length + 4)) (h : Flipped (Crc.app l) a x true) : Crc.ver x = ([], 20) := by
  obtain ⟨hl, m, hm, hle, hany⟩ := h
  have hm0 : m ≠ 0 := of_decide_eq_true hany.symm
  have hla : (Crc.app l).length = l.length + 4 := by simp [Crc.app, Crc.four_length]
  have ht : Crc.reg 4294967295 (Crc.app l) = Crc.turns 32 4294967295 := (Crc.ends_iff l _ (Crc.four_length _)).1 rfl
  have hb := Crc.burst hl a m hm hm0 (by omega) hle ht
  refine ver_bad x l.length (by omega) fun hd => hb ?_
  have := (Crc.ends_iff (x.take l.length) (x.drop l.length) (by simp; omega)).1 hd
  rwa [List.take_append_drop] at this

set_option maxHeartbeats 1000000 in
theorem checksumBursts_walk (s : ByteArray) (a m : Int) (hs : s.size ≤ maxLen) (ha : (Lit.int .u16 a).wf = true) (hm : (Lit.int .u32 m).wf = true) (w : World) :
    Calls Try.prog 7 #[.string s, .int .u16 a, .int .u32 m] w fun e w' => e = .returned (.bool true) ∧ Below w.heap.size w w' := by
  unfold maxLen at hs
  have Hm := kept (wf_u32 hm)
  have ha := wf_u16 ha
  clear hm
  by_cases h : s.size ≤ 200
  · clear hs
    have hl : (Crc.app s.data.toList).length = s.size + 4 := by simp [Crc.app, Crc.four_length]
    have ha0 := ha.1
    have ha1 := ha.2
    clear ha
    obtain ⟨b, hb⟩ : ∃ b : Int, a % (8 * (s.size : Int) + 32) = b := ⟨_, rfl⟩
    have Hb := kept (show 0 ≤ b ∧ b ≤ 100000 ∧ b.toNat ≤ 8 * (s.data.toList.length + 4) by
      have h1 := Int.emod_nonneg a (show (8 * (s.size : Int) + 32) ≠ 0 by omega)
      have h2 := Int.emod_lt_of_pos a (show 0 < (8 * (s.size : Int) + 32) by omega)
      have h3 : s.data.toList.length = s.size := by simp
      omega)
    have Hl := kept hl
    clear hl
    go_enter Try.func7, Try.ntmps7
    go_wp2_with fail
    refine (append_any _ _ (by omega)).mono ?_; rintro e w1 ⟨rfl, b1⟩
    go_wp2_with fail
    refine (changed_any _ b m _ Hb.out.1 (by have := Hb.out.2.1; omega) Hm.out.1 Hm.out.2).mono ?_; rintro e w2 ⟨x, any, rfl, hx, b2⟩
    have Hx := kept hx
    have Hxl := kept (show (⟨x.toArray⟩ : ByteArray).size ≤ 1000000000 by rw [size_mk, hx.1, Hl.out]; omega)
    clear hx
    cases any with
    | false =>
      go_wp2_with (go_at_call 15; refine (awake3_any _).mono ?_; rintro e w3 ⟨rfl, b3⟩)
      go_ret
      exact ⟨rfl, bthen (bthen b1 b2) b3⟩
    | true =>
      have Hv := kept (burst_bad _ _ _ Hb.out.2.2 Hx.out)
      go_wp2_with fail
      refine (verify_at _ _ _ _ Hxl.out Hv.out).mono ?_; rintro e w3 ⟨rfl, b3⟩
      go_wp2_with fail
      refine (awake3_any _).mono ?_; rintro e w4 ⟨rfl, b4⟩
      go_wp2
      go_ret
      exact ⟨rfl, bthen (bthen (bthen b1 b2) b3) b4⟩
  · go_enter Try.func7, Try.ntmps7
    go_wp2_with (go_at_call 15; refine (awake3_any _).mono ?_; rintro e w' ⟨rfl, hb⟩)
    go_ret
    exact ⟨rfl, hb⟩
end Go.Proofs.Ytlgpmcpkddgpmaa
