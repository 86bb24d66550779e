/- Part of what the proof needs. -/
import Derived.Test.YtdikbljgmpbpjaaGreatDoorMA0
import Init.Data.Nat.Bitwise.Lemmas
import Derived.Test.YtdikbljgmpbpjaaGreatDoorRows
import Derived.Deep.RegionWith
namespace Go.Proofs.YtdikbljgmpbpjaaGreatDoor.Crc

/-- One bit of the register. -/
def turn1 (x : Nat) : Nat := if x % 2 = 1 then x / 2 ^^^ 3988292384 else x / 2
/-- `k` bits. -/
def turns : Nat → Nat → Nat
  | 0, x => x
  | k + 1, x => turn1 (turns k x)
/-- One byte. -/
def byte (x : Nat) (b : UInt8) : Nat := turns 8 (x ^^^ b.toNat)
/-- The register after some bytes. -/
def reg (x : Nat) (l : List UInt8) : Nat := l.foldl byte x
/-- `Update`. -/
def upd (x : Nat) (l : List UInt8) : Nat := reg (x ^^^ 4294967295) l ^^^ 4294967295
/-- The four bytes of a checksum. -/
def four (n : Nat) : List UInt8 := [UInt8.ofNat n, UInt8.ofNat (n / 256), UInt8.ofNat (n / 65536), UInt8.ofNat (n / 16777216)]
def app (l : List UInt8) : List UInt8 := l ++ four (upd 0 l)
def ver (l : List UInt8) : List UInt8 × Int :=
  if l.length < 4 then ([], 40) else if l.drop (l.length - 4) = four (upd 0 (l.take (l.length - 4))) then (l.take (l.length - 4), 0) else ([], 20)

theorem xor_mod_two (a b : Nat) : (a ^^^ b) % 2 = (a % 2 + b % 2) % 2 := by
  have h : (a ^^^ b).testBit 0 = (a.testBit 0 ^^ b.testBit 0) := Nat.testBit_xor ..
  simp only [Nat.testBit_zero] at h
  rcases Nat.mod_two_eq_zero_or_one a with ha | ha <;> rcases Nat.mod_two_eq_zero_or_one b with hb | hb <;>
    rcases Nat.mod_two_eq_zero_or_one (a ^^^ b) with hc | hc <;> simp_all
theorem xor_div_two (a b : Nat) : (a ^^^ b) / 2 = a / 2 ^^^ b / 2 := by
  apply Nat.eq_of_testBit_eq; intro i
  simp [Nat.testBit_div_two]
theorem turn1_xor (a b : Nat) : turn1 (a ^^^ b) = turn1 a ^^^ turn1 b := by
  unfold turn1
  rw [xor_mod_two, xor_div_two]
  rcases Nat.mod_two_eq_zero_or_one a with ha | ha <;> rcases Nat.mod_two_eq_zero_or_one b with hb | hb <;> simp [ha, hb]
  · rw [Nat.xor_assoc]
  · rw [Nat.xor_assoc, Nat.xor_comm (b / 2), ← Nat.xor_assoc]
  · rw [Nat.xor_assoc (a / 2), Nat.xor_comm (b / 2) 3988292384, ← Nat.xor_assoc 3988292384, Nat.xor_self, Nat.zero_xor]
theorem turns_xor (k a b : Nat) : turns k (a ^^^ b) = turns k a ^^^ turns k b := by
  induction k with
  | zero => rfl
  | succ k ih => simp [turns, ih, turn1_xor]
theorem turns_turn1 (k x : Nat) : turns k (turn1 x) = turn1 (turns k x) := by
  induction k with
  | zero => rfl
  | succ k ih => simp [turns, ih]
theorem turns_add (j k x : Nat) : turns (j + k) x = turns j (turns k x) := by
  induction j with
  | zero => simp [turns]
  | succ j ih => rw [Nat.succ_add]; simp [turns, ih]
theorem turn1_two_mul (x : Nat) : turn1 (2 * x) = x := by
  unfold turn1; rw [if_neg (by omega)]; omega
theorem turns_pow_mul (k x : Nat) : turns k (2 ^ k * x) = x := by
  induction k generalizing x with
  | zero => simp [turns]
  | succ k ih => rw [turns, Nat.pow_succ, Nat.mul_assoc, ih, turn1_two_mul]
theorem turn1_lt {x : Nat} (h : x < 4294967296) : turn1 x < 4294967296 := by
  unfold turn1; split
  · exact Nat.xor_lt_two_pow (n := 32) (by omega) (by omega)
  · omega
theorem turn1_ne {x : Nat} (h : x < 4294967296) (h0 : x ≠ 0) : turn1 x ≠ 0 := by
  unfold turn1; split
  · intro h1
    have h2 : x / 2 = 3988292384 := by
      have h3 : (x / 2 ^^^ 3988292384) ^^^ 3988292384 = 3988292384 := by rw [h1, Nat.zero_xor]
      rw [Nat.xor_assoc, Nat.xor_self, Nat.xor_zero] at h3; exact h3
    omega
  · omega
theorem turns_lt {x : Nat} (k : Nat) (h : x < 4294967296) : turns k x < 4294967296 := by
  induction k with
  | zero => exact h
  | succ k ih => exact turn1_lt ih
theorem turns_ne {x : Nat} (k : Nat) (h : x < 4294967296) (h0 : x ≠ 0) : turns k x ≠ 0 := by
  induction k with
  | zero => exact h0
  | succ k ih => exact turn1_ne (turns_lt k h) ih
theorem xor_eq_zero {a b : Nat} (h : a ^^^ b = 0) : a = b := by
  have h2 : (a ^^^ b) ^^^ b = b := by rw [h, Nat.zero_xor]
  rw [Nat.xor_assoc, Nat.xor_self, Nat.xor_zero] at h2; exact h2
theorem turns_inj (k : Nat) {a b : Nat} (ha : a < 4294967296) (hb : b < 4294967296) (h : turns k a = turns k b) : a = b := by
  apply Classical.byContradiction; intro hn
  have h1 : turns k (a ^^^ b) = 0 := by rw [turns_xor, h, Nat.xor_self]
  exact turns_ne k (Nat.xor_lt_two_pow (n := 32) (by omega) (by omega)) (fun h2 => hn (xor_eq_zero h2)) h1
theorem byte_lt {x : Nat} (b : UInt8) (h : x < 4294967296) : byte x b < 4294967296 :=
  turns_lt 8 (Nat.xor_lt_two_pow (n := 32) (by omega) (by have := b.toNat_lt; omega))
theorem reg_lt {x : Nat} (l : List UInt8) (h : x < 4294967296) : reg x l < 4294967296 := by
  induction l generalizing x with
  | nil => exact h
  | cons b l ih => exact ih (byte_lt b h)
theorem upd_lt {x : Nat} (l : List UInt8) (h : x < 4294967296) : upd x l < 4294967296 :=
  Nat.xor_lt_two_pow (n := 32) (reg_lt l (Nat.xor_lt_two_pow (n := 32) (by omega) (by omega))) (by omega)
theorem reg_append (x : Nat) (l m : List UInt8) : reg x (l ++ m) = reg (reg x l) m := by simp [reg, List.foldl_append]
theorem upd_append (x : Nat) (l m : List UInt8) : upd x (l ++ m) = upd (upd x l) m := by
  unfold upd; rw [reg_append, Nat.xor_assoc, Nat.xor_self, Nat.xor_zero]

/-- The bytes as one number, the first byte lowest. -/
def le : List UInt8 → Nat
  | [] => 0
  | b :: l => b.toNat + 256 * le l
theorem le_lt (l : List UInt8) : le l < 2 ^ (8 * l.length) := by
  induction l with
  | nil => simp [le]
  | cons b l ih =>
    have := b.toNat_lt
    rw [List.length_cons, Nat.mul_add, Nat.pow_add, le]; omega
theorem add_eq_xor (b x : Nat) (h : b < 256) : b + 256 * x = b ^^^ 256 * x := by
  apply Nat.eq_of_testBit_eq; intro i
  rw [Nat.testBit_xor, show (256 : Nat) = 2 ^ 8 from rfl, Nat.add_comm, Nat.testBit_two_pow_mul_add x (by simpa using h) i, Nat.testBit_two_pow_mul]
  by_cases hi : i < 8
  · simp [hi, Nat.not_le.2 hi]
  · have : b.testBit i = false := Nat.testBit_lt_two_pow (Nat.lt_of_lt_of_le h (by
      have : 2 ^ 8 ≤ 2 ^ i := Nat.pow_le_pow_right (by omega) (by omega)
      simpa using this))
    simp [hi, this, Nat.not_lt.1 hi]
/-- The register is the bytes' number, moved through the register bit by bit. -/
theorem reg_eq (x : Nat) (l : List UInt8) : reg x l = turns (8 * l.length) (x ^^^ le l) := by
  induction l generalizing x with
  | nil => simp [reg, le, turns]
  | cons b l ih =>
    show reg (byte x b) l = _
    have hb := b.toNat_lt
    rw [ih, List.length_cons, Nat.mul_add, turns_add, le, add_eq_xor _ _ (by omega), ← Nat.xor_assoc, turns_xor 8]
    show _ = turns (8 * l.length) (byte x b ^^^ turns 8 (256 * le l))
    rw [show 256 * le l = 2 ^ 8 * le l from rfl, turns_pow_mul]

theorem four_length (n : Nat) : (four n).length = 4 := rfl
theorem le_four (n : Nat) (h : n < 4294967296) : le (four n) = n := by
  simp only [four, le, UInt8.toNat_ofNat']; omega
theorem four_le (l : List UInt8) (h : l.length = 4) : four (le l) = l := by
  match l, h with
  | [a, b, c, d], _ =>
    have ha := a.toNat_lt; have hb := b.toNat_lt; have hc := c.toNat_lt; have hd := d.toNat_lt
    simp only [four, le, List.cons.injEq, and_true, ← UInt8.toNat_inj, UInt8.toNat_ofNat']
    omega
/-- A string ends with its checksum if and only if the register behind all of it is this. -/
theorem ends_iff (p v : List UInt8) (hv : v.length = 4) : v = four (upd 0 p) ↔ reg 4294967295 (p ++ v) = turns 32 4294967295 := by
  rw [reg_append, reg_eq _ v, hv]
  have h1 := reg_lt (x := 4294967295) p (by omega)
  have h2 : le v < 4294967296 := by have := le_lt v; rw [hv] at this; simpa using this
  have e : upd 0 p = reg 4294967295 p ^^^ 4294967295 := by unfold upd; rw [Nat.zero_xor]
  have h3 := upd_lt (x := 0) p (by omega)
  constructor
  · intro h
    have h4 : le v = reg 4294967295 p ^^^ 4294967295 := by rw [h, le_four _ h3, e]
    rw [h4, ← Nat.xor_assoc, Nat.xor_self, Nat.zero_xor]
  · intro h
    have h4 := turns_inj 32 (Nat.xor_lt_two_pow (n := 32) h1 h2) (by omega) h
    have h5 : le v = upd 0 p := by
      rw [e]; generalize reg 4294967295 p = r at *
      rw [← h4, ← Nat.xor_assoc, Nat.xor_self, Nat.zero_xor]
    rw [← h5, four_le v hv]
/-- Two strings of one length that differ by a burst do not both end with their checksums. -/
theorem burst {x t : List UInt8} (hl : x.length = t.length) (a m : Nat) (hm : m < 4294967296) (hm0 : m ≠ 0) (ha : a ≤ 8 * x.length)
    (hd : le x = le t ^^^ 2 ^ a * m) (ht : reg 4294967295 t = turns 32 4294967295) : reg 4294967295 x ≠ turns 32 4294967295 := by
  intro hx
  have h1 : reg 4294967295 x = reg 4294967295 t := hx.trans ht.symm
  rw [reg_eq, reg_eq, hd, hl, ← Nat.xor_assoc, turns_xor] at h1
  have h2 : turns (8 * t.length) (2 ^ a * m) = 0 := by
    have h3 : ∀ y z : Nat, y ^^^ z = y → z = 0 := fun y z h => by
      have h4 : y ^^^ (y ^^^ z) = 0 := by rw [h, Nat.xor_self]
      rw [← Nat.xor_assoc, Nat.xor_self, Nat.zero_xor] at h4; exact h4
    exact h3 _ _ h1
  rw [show 8 * t.length = (8 * t.length - a) + a from by omega, turns_add, turns_pow_mul] at h2
  exact turns_ne _ hm hm0 h2
end Go.Proofs.YtdikbljgmpbpjaaGreatDoor.Crc

namespace Go.Proofs.YtdikbljgmpbpjaaGreatDoor
open Go.RowKit

theorem turn1_odd {x : Nat} (h : ((x : Int) % 2 == 1) = true) (hx : x < 4294967296) : Value.int .u32 (bits .xor .u32 ((x : Int) / 2) 3988292384) = .int .u32 (Crc.turn1 x : Nat) := by
  have h1 : x % 2 = 1 := by have := beq_iff_eq.1 h; omega
  have e : ((x : Int) / 2) = ((x / 2 : Nat) : Int) := by omega
  rw [e, show (3988292384 : Int) = ((3988292384 : Nat) : Int) from rfl, u32_xor_nat _ _ (by omega) (by omega), Crc.turn1, if_pos h1]
theorem turn1_even {x : Nat} (h : ((x : Int) % 2 == 1) = false) : Value.int .u32 ((x : Int) / 2) = .int .u32 (Crc.turn1 x : Nat) := by
  have h1 : ¬ x % 2 = 1 := by have := beq_eq_false_iff_ne.1 h; omega
  rw [Crc.turn1, if_neg h1]; congr 1
theorem crc_and_one {x : Nat} (hx : x < 4294967296) : bits .and .u32 (x : Int) 1 = (x : Int) % 2 := by
  rw [show (1 : Int) = ((1 : Nat) : Int) from rfl, u32_and_nat _ _ hx (by omega), Nat.and_one_is_mod]; omega

set_option maxHeartbeats 400000 in
theorem turn_any (c : Nat) (b : UInt8) (w : World) (h : c < 4294967296) :
    Calls Tryz.prog 152 #[.int .u32 c, .int .u8 b.toNat] w fun e w' => e = .returned (.int .u32 (Crc.byte c b : Nat)) ∧ w = w' := by
  have hb := b.toNat_lt
  have hx : bits .xor .u32 (c : Int) (b.toNat : Int) = ((c ^^^ b.toNat : Nat) : Int) := u32_xor_nat _ _ h (by omega)
  have hl : c ^^^ b.toNat < 4294967296 := Nat.xor_lt_two_pow (n := 32) (by omega) (by omega)
  have hb2 : ((b.toNat : Int)) < 256 := by omega
  generalize hy : c ^^^ b.toNat = y at hx hl
  have Hy := kept hy; clear hy h hb
  go_enter Tryz.func152, Tryz.ntmps152
  go_wp2
  clear hx hb2
  go_loop [0, 5] (fun n i => ∃ k : Nat, k ≤ 8 ∧ i = .int .i64 k ∧ n = .int .u32 (Crc.turns k y : Nat)) (fun _ i => 8 - (intOf i).toNat)
  case atStart => exact ⟨0, by omega, rfl, rfl⟩
  case round =>
    obtain ⟨k, hk, rfl, rfl⟩ := hrel
    have hs : ((Crc.turns k y : Nat) : Int) < 4294967296 := by have := Crc.turns_lt k hl; omega
    have hs0 : 0 ≤ ((Crc.turns k y : Nat) : Int) := by omega
    clear hl
    generalize hz : ((Crc.turns k y : Nat) : Int) = z at hs hs0
    have Hz := kept hz; clear hz
    by_cases hlt : k < 8
    · go_wp2
      all_goals
        go_round
        case rel => exact ⟨k + 1, by omega, by go_num, by rw [Crc.turns]; have hz := Hz.out; subst hz; first | exact turn1_odd ‹_› (by omega) | exact turn1_even ‹_›⟩
        case measure => simp [intOf]; omega
    · obtain rfl : k = 8 := by omega
      go_wp2
      go_ret
      exact ⟨ret_int (by rw [Crc.byte, Hy.out, Hz.out]), rfl⟩

set_option maxHeartbeats 400000 in
theorem refUpd_any (c : Int) (s : ByteArray) (w : World) (h0 : 0 ≤ c) (h : c < 4294967296) (hs : s.size ≤ 1000000000) :
    Calls Tryz.prog 123 #[.int .u32 c, .string s] w fun e w' => e = .returned (.int .u32 (Crc.upd c.toNat s.data.toList : Nat)) ∧ w = w' := by
  have hx : bits .xor .u32 c 4294967295 = ((c.toNat ^^^ 4294967295 : Nat) : Int) := u32_xor c 4294967295 h0 h (by omega) (by omega)
  have hl : c.toNat ^^^ 4294967295 < 4294967296 := Nat.xor_lt_two_pow (n := 32) (by omega) (by omega)
  clear h
  generalize hy : c.toNat ^^^ 4294967295 = y at hx hl
  have Hy := kept hy; clear hy
  have Hl := kept hl; clear hl
  go_enter Tryz.func123, Tryz.ntmps123
  go_wp2
  clear hx
  go_loop [5, 6] (fun n i => ∃ k : Nat, k ≤ s.size ∧ i = .int .i64 k ∧ n = .int .u32 (Crc.reg y (s.data.toList.take k) : Nat)) (fun _ i => s.size - (intOf i).toNat)
  case atStart => exact ⟨0, by omega, rfl, rfl⟩
  case round =>
    obtain ⟨k, hk, rfl, rfl⟩ := hrel
    by_cases hlt : k < s.size
    · have hb : s.data.toList.take (k + 1) = s.data.toList.take k ++ [s[k]] := by
        rw [List.take_succ_eq_append_getElem (by simpa using hlt)]; rfl
      have Hr := kept (show Crc.reg y (s.data.toList.take (k + 1)) = Crc.byte (Crc.reg y (s.data.toList.take k)) s[k] by rw [hb, Crc.reg_append]; rfl)
      have Hz := kept (Crc.reg_lt (s.data.toList.take k) Hl.out)
      clear hb
      go_wp2_with (go_at_call 152; refine (turn_any _ _ _ Hz.out).mono ?_; rintro e w' ⟨rfl, rfl⟩)
      go_round
      case rel => exact ⟨k + 1, by omega, by go_num, by rw [Hr.out]⟩
      case measure => simp [intOf]; omega
    · have Hr := kept (show Crc.reg y (s.data.toList.take k) = Crc.reg y s.data.toList by rw [List.take_of_length_le (by simp; omega)])
      have Hz := kept (Crc.reg_lt (s.data.toList.take k) Hl.out)
      generalize hz : Crc.reg y (s.data.toList.take k) = z at *
      have Hz' := kept hz; clear hz
      go_wp2
      go_ret
      exact ⟨ret_int (by rw [show (4294967295 : Int) = ((4294967295 : Nat) : Int) from rfl, u32_xor_nat _ _ Hz.out (by omega), Crc.upd, Hy.out, Hr.out]), rfl⟩
theorem sum_u8 (x : Int) (b : UInt8) (h0 : 0 ≤ x) (h : x < 4294967296) : bits .xor .u32 x ((b.toNat : Int) % 4294967296) = ((x.toNat ^^^ b.toNat : Nat) : Int) := by
  have hb := b.toNat_lt
  rw [show (b.toNat : Int) % 4294967296 = (b.toNat : Int) by omega, u32_xor _ _ h0 h (by omega) (by omega)]; rfl

set_option maxHeartbeats 400000 in
theorem upd_any (c : Int) (s : ByteArray) (w : World) (h0 : 0 ≤ c) (h : c < 4294967296) (hs : s.size ≤ 1000000000) :
    Calls Tryz.prog 121 #[.int .u32 c, .string s] w fun e w' => e = .returned (.int .u32 (Crc.upd c.toNat s.data.toList : Nat)) ∧ w = w' := by
  have hx : bits .xor .u32 IntKind.u32.max c = ((c.toNat ^^^ 4294967295 : Nat) : Int) := by
    rw [show IntKind.u32.max = 4294967295 from rfl, u32_xor _ c (by omega) (by omega) h0 h, Nat.xor_comm]; rfl
  have hl : c.toNat ^^^ 4294967295 < 4294967296 := Nat.xor_lt_two_pow (n := 32) (by omega) (by omega)
  clear h
  generalize hy : c.toNat ^^^ 4294967295 = y at hx hl
  have Hy := kept hy; clear hy
  have Hl := kept hl; clear hl
  go_enter Tryz.func121, Tryz.ntmps121
  go_wp2
  clear hx
  go_loop [5, 12] (fun n i => ∃ k : Nat, k ≤ s.size ∧ i = .int .i64 k ∧ n = .int .u32 (Crc.reg y (s.data.toList.take k) : Nat)) (fun _ i => s.size - (intOf i).toNat)
  case atStart => exact ⟨0, by omega, rfl, rfl⟩
  case round =>
    obtain ⟨k, hk, rfl, rfl⟩ := hrel
    by_cases hlt : k < s.size
    · have hb : s.data.toList.take (k + 1) = s.data.toList.take k ++ [s[k]] := by
        rw [List.take_succ_eq_append_getElem (by simpa using hlt)]; rfl
      have Hr := kept (show Crc.reg y (s.data.toList.take (k + 1)) = Crc.byte (Crc.reg y (s.data.toList.take k)) s[k] by rw [hb, Crc.reg_append]; rfl)
      have hz := Crc.reg_lt (s.data.toList.take k) Hl.out
      have hx := sum_u8 (Crc.reg y (s.data.toList.take k) : Nat) s[k] (by omega) (by omega)
      rw [Int.toNat_natCast] at hx
      have hq : Crc.reg y (s.data.toList.take k) ^^^ s[k].toNat < 4294967296 := Nat.xor_lt_two_pow (n := 32) (by omega) (by have := s[k].toNat_lt; omega)
      clear hb hz
      generalize hy2 : Crc.reg y (s.data.toList.take k) ^^^ s[k].toNat = q at hx hq
      have Hq := kept hq; have Hy2 := kept hy2; clear hq hy2
      go_wp2
      clear hx
      go_loop [5, 21] (fun n i => ∃ j : Nat, j ≤ 8 ∧ i = .int .i64 j ∧ n = .int .u32 (Crc.turns j q : Nat)) (fun _ i => 8 - (intOf i).toNat)
      case atStart => exact ⟨0, by omega, rfl, rfl⟩
      case round =>
        obtain ⟨j, hj, rfl, rfl⟩ := hrel
        have Ht := kept (Crc.turns_lt j Hq.out)
        have ha := crc_and_one Ht.out
        have hu : ((Crc.turns j q : Nat) : Int) < 4294967296 := by have := Ht.out; omega
        have hu0 : 0 ≤ ((Crc.turns j q : Nat) : Int) := by omega
        generalize hv : ((Crc.turns j q : Nat) : Int) = v at ha hu hu0
        have Hv := kept hv; clear hv
        by_cases hlj : j < 8
        · go_wp2
          all_goals
            go_round
            case rel => exact ⟨j + 1, by omega, by go_num, by rw [Crc.turns]; have hz := Hv.out; subst hz; first | exact turn1_odd ‹_› Ht.out | exact turn1_even ‹_›⟩
            case measure => simp [intOf]; omega
        · go_wp2
          go_round
          case rel => exact ⟨k + 1, by omega, by go_num, by rw [Hr.out, Crc.byte, Hy2.out, show 8 = j by omega, Hv.out]⟩
          case measure => simp [intOf]; omega
    · have Hr := kept (show Crc.reg y (s.data.toList.take k) = Crc.reg y s.data.toList by rw [List.take_of_length_le (by simp; omega)])
      have Hz := kept (Crc.reg_lt (s.data.toList.take k) Hl.out)
      generalize hz : Crc.reg y (s.data.toList.take k) = z at *
      have Hz' := kept hz; clear hz
      go_wp2
      go_ret
      exact ⟨ret_int (by rw [show IntKind.u32.max = ((4294967295 : Nat) : Int) from rfl, u32_xor_nat _ _ (by omega) Hz.out, Crc.upd, Hy.out, Nat.xor_comm, Hr.out]), rfl⟩
theorem four_bcells (n : Int) (h0 : 0 ≤ n) (h : n < 4294967296) :
    (bcells (Crc.four n.toNat)).toArray = #[.int .u8 (n % 256), .int .u8 (n / 256 % 256), .int .u8 (n / 65536 % 256), .int .u8 (n / 16777216)] := by
  simp only [bcells, Crc.four, List.map, UInt8.toNat_ofNat']
  congr 2
  · congr 1; omega
  · congr 1
    · congr 1; omega
    · congr 1
      · congr 1; omega
      · congr 2; omega

set_option maxHeartbeats 400000 in
theorem octets_any (n : Int) (w : World) (h0 : 0 ≤ n) (h : n < 4294967296) :
    Calls Tryz.prog 78 #[.int .u32 n] w fun e w' => e = .returned (.string ⟨(Crc.four n.toNat).toArray⟩) ∧ Below w.heap.size w w' := by
  have hc := (BytesAt.lit w 5 (Crc.four n.toNat)).conv (P := Tryz.prog) 64 9 4 Tryz.underlying64 Tryz.underlying5 Tryz.underlying9
  rw [four_bcells n h0 h, Crc.four_length] at hc
  go_enter Tryz.func78, Tryz.ntmps78
  go_wp2
  go_ret
  exact ⟨rfl, (Below.refl _ _).alloc (Nat.le_refl _) _⟩

theorem info_u8 : (Tryz.prog.info? 5).map (fun i => (i.zero, i.size, i.bytes)) = some (some (.int .u8 0), 1, 1) := by kernel_rfl
theorem four_take (n k : Nat) (h : k < 4) : (Crc.four n).take (k + 1) = (Crc.four n).take k ++ [UInt8.ofNat (n / 256 ^ k)] := by
  match k, h with
  | 0, _ => simp [Crc.four]
  | 1, _ => simp [Crc.four]
  | 2, _ => simp [Crc.four]
  | 3, _ => simp [Crc.four]

set_option maxHeartbeats 400000 in
theorem four_any (n : Int) (w : World) (h0 : 0 ≤ n) (h : n < 4294967296) :
    Calls Tryz.prog 89 #[.int .u32 n] w fun e w' => e = .returned (.string ⟨(Crc.four n.toNat).toArray⟩) ∧ Below w.heap.size w w' := by
  go_enter Tryz.func89, Tryz.ntmps89
  go_wp2
  go_loopw [0, 3, 4] (fun x v i wr => ∃ k : Nat, k ≤ 4 ∧ i = .int .i64 k ∧ x = .int .u32 (n / 256 ^ k) ∧ OwnsB wr w.heap.size 5 v ((Crc.four n.toNat).take k) ∧ Below w.heap.size w wr) (fun _ _ i _ => 4 - (intOf i).toNat)
  case atStart => exact ⟨0, by omega, rfl, by simp, OwnsB.nil _ _ _, Below.refl _ _⟩
  case round =>
    obtain ⟨k, hk, rfl, rfl, hown, hbel⟩ := hrel
    by_cases hlt : k < 4
    · have Hd := kept (show n / 256 ^ k / 256 = n / 256 ^ (k + 1) by rw [Int.pow_succ]; exact Int.ediv_ediv_of_nonneg (Int.pow_nonneg (by decide)))
      have Ht := kept (four_take n.toNat k hlt)
      have hx0 : 0 ≤ n / 256 ^ k := Int.ediv_nonneg h0 (Int.pow_nonneg (by decide))
      have hx1 : n / 256 ^ k < 4294967296 := by
        have := Int.ediv_le_self (256 ^ k) h0; omega
      have Hb := kept (show UInt8.ofNat (n.toNat / 256 ^ k) = UInt8.ofNat ((n / 256 ^ k) % 256).toNat by
        rw [← UInt8.toNat_inj, UInt8.toNat_ofNat', UInt8.toNat_ofNat']
        have e : (n / 256 ^ k).toNat = n.toNat / 256 ^ k := by
          obtain ⟨m, rfl⟩ := Int.eq_ofNat_of_zero_le h0
          rw [Int.toNat_natCast, show ((m : Int) / 256 ^ k) = ((m / 256 ^ k : Nat) : Int) by simp, Int.toNat_natCast]
        omega)
      have hlen : ((Crc.four n.toNat).take k).length ≤ 4 := by simp [Crc.four_length]; omega
      have hsz := hbel.size
      generalize hy : n / 256 ^ k = y at hx0 hx1
      have Hy := kept hy; clear hy h
      go_wp2_with (at_builtin; refine wpList_append_byte rfl _ _ 64 5 rfl Tryz.underlying64 info_u8 w.heap.size _ _ rfl (hown.below ((Below.refl _ _).alloc (Nat.le_refl _) _) (Nat.le_refl _)) (hbel.alloc hsz _) ⟨wr.heap.size, 0, none⟩ 1 (y % 256) rfl ?_ ?_ ?_ ?_ ?_ ?_)
      · simp
      · omega
      · omega
      · omega
      · simp; omega
      · intro v' w' hown' hbel' _
        clear hown hbel hlen hsz
        go_wp2
        go_roundw
        case rel => exact ⟨k + 1, by omega, by go_num, by rw [← Hd.out, Hy.out], by rw [Ht.out, Hb.out, Hy.out]; exact hown', hbel'⟩
        case measure => simp [intOf]; omega
    · obtain rfl : k = 4 := by omega
      have hc := hown.conv (P := Tryz.prog) 64 9 Tryz.underlying64 Tryz.underlying5 Tryz.underlying9
      rw [List.take_of_length_le (by simp [Crc.four_length])] at hc
      clear hown h0 h
      go_wp2
      go_ret
      exact ⟨rfl, hbel⟩
theorem ver_slice_take (s : ByteArray) (n : Nat) : (s.extract 0 n).data.toList = s.data.toList.take n := by simp

theorem ver_slice_drop (s : ByteArray) (n : Nat) : (s.extract n s.size).data.toList = s.data.toList.drop n := by
  simp; exact List.take_of_length_le (by simp)

theorem str_eq_list (s : ByteArray) : s = ⟨s.data.toList.toArray⟩ := by simp
end Go.Proofs.YtdikbljgmpbpjaaGreatDoor

namespace Go.Proofs.YtdikbljgmpbpjaaGreatDoor
open Go.RowKit
theorem ver_short (l : List UInt8) (h : l.length < 4) : Crc.ver l = ([], 40) := by unfold Crc.ver; rw [if_pos h]
theorem ver_good (l : List UInt8) (n : Nat) (h : l.length = n + 4) (hd : l.drop n = Crc.four (Crc.upd 0 (l.take n))) : Crc.ver l = (l.take n, 0) := by
  unfold Crc.ver; rw [if_neg (by omega), show l.length - 4 = n by omega, if_pos hd]
theorem ver_bad (l : List UInt8) (n : Nat) (h : l.length = n + 4) (hd : ¬ l.drop n = Crc.four (Crc.upd 0 (l.take n))) : Crc.ver l = ([], 20) := by
  unfold Crc.ver; rw [if_neg (by omega), show l.length - 4 = n by omega, if_neg hd]

set_option maxHeartbeats 400000 in
theorem sum_any (s : ByteArray) (w : World) (hs : s.size ≤ 1000000000) :
    Calls Tryz.prog 79 #[.string s] w fun e w' => e = .returned (.int .u32 (Crc.upd 0 s.data.toList : Nat)) ∧ w = w' := by
  go_enter Tryz.func79, Tryz.ntmps79
  go_wp2_with (go_at_call 121; refine (upd_any 0 _ _ (by omega) (by omega) (by omega)).mono ?_; rintro e w' ⟨rfl, rfl⟩)
  go_ret
  exact ⟨rfl, rfl⟩
set_option maxHeartbeats 400000 in
theorem append_any (s : ByteArray) (w : World) (hs : s.size ≤ 1000000000) :
    Calls Tryz.prog 72 #[.string s] w fun e w' => e = .returned (.string ⟨(Crc.app s.data.toList).toArray⟩) ∧ Below w.heap.size w w' := by
  have Hu := kept (show ((Crc.upd 0 s.data.toList : Nat) : Int) < 4294967296 by have := Crc.upd_lt (x := 0) s.data.toList (by omega); omega)
  have hcat := fun W => run_cat (P := Tryz.prog) W (a := s) (b := ⟨(Crc.four (Crc.upd 0 s.data.toList)).toArray⟩) rfl rfl (by rw [Crc.four_length]; simp; omega)
  go_enter Tryz.func72, Tryz.ntmps72
  go_wp2_with (first | (go_at_call 79; refine (sum_any _ _ hs).mono ?_; rintro e w' ⟨rfl, rfl⟩) | (go_at_call 78; refine (octets_any _ _ (by omega) Hu.out).mono ?_; rintro e w' ⟨rfl, hb⟩))
  go_ret
  exact ⟨rfl, hb⟩
set_option maxHeartbeats 400000 in
theorem verify_any (s : ByteArray) (w : World) (hs : s.size ≤ 1000000000) :
    Calls Tryz.prog 39 #[.string s] w fun e w' => e = .returned (.tuple #[.string ⟨(Crc.ver s.data.toList).1.toArray⟩, .int .i64 (Crc.ver s.data.toList).2]) ∧ Below w.heap.size w w' := by
  by_cases h4 : s.size < 4
  · rw [ver_short _ (by simpa using h4)]
    go_enter Tryz.func39, Tryz.ntmps39
    go_wp2
    go_ret2
    exact ⟨rfl, Below.refl _ _⟩
  · obtain ⟨n, hn⟩ : ∃ n : Nat, s.size = n + 4 := ⟨s.size - 4, by omega⟩
    have Hu := kept (show ((Crc.upd 0 (s.data.toList.take n) : Nat) : Int) < 4294967296 by have := Crc.upd_lt (x := 0) (s.data.toList.take n) (by omega); omega)
    have hl : s.data.toList.length = n + 4 := by simpa using hn
    have hx : (s.extract n (n + 4)).toList = s.data.toList.drop n := by
      rw [ByteArray.toList_eq, ← hn]; exact ver_slice_drop s n
    have Hs := kept hs
    have hb : (n : Int) ≤ 1000000000 := by omega
    clear h4 hs
    by_cases hd : s.data.toList.drop n = Crc.four (Crc.upd 0 (s.data.toList.take n))
    · rw [ver_good _ n hl hd]
      have heq : ((s.extract n (n + 4)).toList == Crc.four (Crc.upd 0 (s.data.toList.take n))) = true := by rw [hx, hd]; exact beq_self_eq_true _
      clear hd hl hx
      go_enter Tryz.func39, Tryz.ntmps39
      go_wp2
      go_region_with (first | (go_at_call 79; refine (sum_any _ _ (by have := Hs.out; simp; omega)).mono ?_; rintro e w' ⟨rfl, rfl⟩) | (go_at_call 78; refine (octets_any _ _ (by omega) (by simpa using Hu.out)).mono ?_; rintro e w' ⟨rfl, hb⟩))
      all_goals go_wp2
      all_goals go_ret2
      all_goals exact ⟨by rw [str_of (ver_slice_take s n)]; rfl, (Below.refl _ w).drew.trans hb⟩
    · rw [ver_bad _ n hl hd]
      have heq : ((s.extract n (n + 4)).toList == Crc.four (Crc.upd 0 (s.data.toList.take n))) = false := by rw [hx]; exact beq_eq_false_iff_ne.2 hd
      clear hd hl hx
      go_enter Tryz.func39, Tryz.ntmps39
      go_wp2
      go_region_with (first | (go_at_call 79; refine (sum_any _ _ (by have := Hs.out; simp; omega)).mono ?_; rintro e w' ⟨rfl, rfl⟩) | (go_at_call 78; refine (octets_any _ _ (by omega) (by simpa using Hu.out)).mono ?_; rintro e w' ⟨rfl, hb⟩))
      all_goals go_wp2
      all_goals go_ret2
      all_goals exact ⟨rfl, (Below.refl _ w).drew.trans hb⟩

set_option maxHeartbeats 400000 in
theorem refSum_any (s : ByteArray) (w : World) (hs : s.size ≤ 1000000000) :
    Calls Tryz.prog 90 #[.string s] w fun e w' => e = .returned (.int .u32 (Crc.upd 0 s.data.toList : Nat)) ∧ w = w' := by
  go_enter Tryz.func90, Tryz.ntmps90
  go_wp2_with (go_at_call 123; refine (refUpd_any 0 _ _ (by omega) (by omega) (by omega)).mono ?_; rintro e w' ⟨rfl, rfl⟩)
  go_ret
  exact ⟨rfl, rfl⟩
set_option maxHeartbeats 400000 in
theorem refAppend_any (s : ByteArray) (w : World) (hs : s.size ≤ 1000000000) :
    Calls Tryz.prog 76 #[.string s] w fun e w' => e = .returned (.string ⟨(Crc.app s.data.toList).toArray⟩) ∧ Below w.heap.size w w' := by
  have Hu := kept (show ((Crc.upd 0 s.data.toList : Nat) : Int) < 4294967296 by have := Crc.upd_lt (x := 0) s.data.toList (by omega); omega)
  have hcat := fun W => run_cat (P := Tryz.prog) W (a := s) (b := ⟨(Crc.four (Crc.upd 0 s.data.toList)).toArray⟩) rfl rfl (by rw [Crc.four_length]; simp; omega)
  go_enter Tryz.func76, Tryz.ntmps76
  go_wp2_with (first | (go_at_call 90; refine (refSum_any _ _ hs).mono ?_; rintro e w' ⟨rfl, rfl⟩) | (go_at_call 89; refine (four_any _ _ (by omega) Hu.out).mono ?_; rintro e w' ⟨rfl, hb⟩))
  go_ret
  exact ⟨rfl, hb⟩
set_option maxHeartbeats 400000 in
theorem refVerify_any (s : ByteArray) (w : World) (hs : s.size ≤ 1000000000) :
    Calls Tryz.prog 43 #[.string s] w fun e w' => e = .returned (.tuple #[.string ⟨(Crc.ver s.data.toList).1.toArray⟩, .int .i64 (Crc.ver s.data.toList).2]) ∧ Below w.heap.size w w' := by
  by_cases h4 : s.size < 4
  · rw [ver_short _ (by simpa using h4)]
    go_enter Tryz.func43, Tryz.ntmps43
    go_wp2
    go_ret2
    exact ⟨rfl, Below.refl _ _⟩
  · obtain ⟨n, hn⟩ : ∃ n : Nat, s.size = n + 4 := ⟨s.size - 4, by omega⟩
    have Hu := kept (show ((Crc.upd 0 (s.data.toList.take n) : Nat) : Int) < 4294967296 by have := Crc.upd_lt (x := 0) (s.data.toList.take n) (by omega); omega)
    have hl : s.data.toList.length = n + 4 := by simpa using hn
    have hx : (s.extract n (n + 4)).toList = s.data.toList.drop n := by
      rw [ByteArray.toList_eq, ← hn]; exact ver_slice_drop s n
    have Hs := kept hs
    have hb : (n : Int) ≤ 1000000000 := by omega
    clear h4 hs
    by_cases hd : s.data.toList.drop n = Crc.four (Crc.upd 0 (s.data.toList.take n))
    · rw [ver_good _ n hl hd]
      have heq : ((s.extract n (n + 4)).toList == Crc.four (Crc.upd 0 (s.data.toList.take n))) = true := by rw [hx, hd]; exact beq_self_eq_true _
      clear hd hl hx
      go_enter Tryz.func43, Tryz.ntmps43
      go_wp2
      go_region_with (first | (go_at_call 90; refine (refSum_any _ _ (by have := Hs.out; simp; omega)).mono ?_; rintro e w' ⟨rfl, rfl⟩) | (go_at_call 89; refine (four_any _ _ (by omega) (by simpa using Hu.out)).mono ?_; rintro e w' ⟨rfl, hb⟩))
      all_goals go_wp2
      all_goals go_ret2
      all_goals exact ⟨by rw [str_of (ver_slice_take s n)]; rfl, (Below.refl _ w).drew.trans hb⟩
    · rw [ver_bad _ n hl hd]
      have heq : ((s.extract n (n + 4)).toList == Crc.four (Crc.upd 0 (s.data.toList.take n))) = false := by rw [hx]; exact beq_eq_false_iff_ne.2 hd
      clear hd hl hx
      go_enter Tryz.func43, Tryz.ntmps43
      go_wp2
      go_region_with (first | (go_at_call 90; refine (refSum_any _ _ (by have := Hs.out; simp; omega)).mono ?_; rintro e w' ⟨rfl, rfl⟩) | (go_at_call 89; refine (four_any _ _ (by omega) (by simpa using Hu.out)).mono ?_; rintro e w' ⟨rfl, hb⟩))
      all_goals go_wp2
      all_goals go_ret2
      all_goals exact ⟨rfl, (Below.refl _ w).drew.trans hb⟩
end Go.Proofs.YtdikbljgmpbpjaaGreatDoor
