/- Plain laws of the CRC-32 checksum on natural numbers: the register is linear, and a burst of at most 32 bits changes it. No program in sight. -/
import Init.Data.Nat.Bitwise.Lemmas
namespace Go.Proofs.Ytlgpmcpkddgpmaa.Crc

/-- One bit of the register. -/
def turn1 (x : Nat) : Nat := if x % 2 = 1 then x / 2 ^^^ 3988292384 else x / 2
/-- `k` bits. -/
def turns : Nat → Nat → Nat
  | 0, x => x
  | k + 1, x => turn1 (turns k x)
/-- One byte. -/
def byte (x : Nat) (b : UInt8) : Nat := turns 8 (x ^^^ b.toNat)
/-- The register after some bytes. -/
def reg (x : Nat) (l : List UInt8) : Nat := l.foldl byte x
/-- `Update`. -/
def upd (x : Nat) (l : List UInt8) : Nat := reg (x ^^^ 4294967295) l ^^^ 4294967295
/-- The four bytes of a checksum. -/
def four (n : Nat) : List UInt8 := [UInt8.ofNat n, UInt8.ofNat (n / 256), UInt8.ofNat (n / 65536), UInt8.ofNat (n / 16777216)]
def app (l : List UInt8) : List UInt8 := l ++ four (upd 0 l)
def ver (l : List UInt8) : List UInt8 × Int :=
  if l.length < 4 then ([], 40) else if l.drop (l.length - 4) = four (upd 0 (l.take (l.length - 4))) then (l.take (l.length - 4), 0) else ([], 20)

theorem xor_mod_two (a b : Nat) : (a ^^^ b) % 2 = (a % 2 + b % 2) % 2 := by
  have h : (a ^^^ b).testBit 0 = (a.testBit 0 ^^ b.testBit 0) := Nat.testBit_xor ..
  simp only [Nat.testBit_zero] at h
  rcases Nat.mod_two_eq_zero_or_one a with ha | ha <;> rcases Nat.mod_two_eq_zero_or_one b with hb | hb <;>
    rcases Nat.mod_two_eq_zero_or_one (a ^^^ b) with hc | hc <;> simp_all
theorem xor_div_two (a b : Nat) : (a ^^^ b) / 2 = a / 2 ^^^ b / 2 := by
  apply Nat.eq_of_testBit_eq; intro i
  simp [Nat.testBit_div_two]
theorem turn1_xor (a b : Nat) : turn1 (a ^^^ b) = turn1 a ^^^ turn1 b := by
  unfold turn1
  rw [xor_mod_two, xor_div_two]
  rcases Nat.mod_two_eq_zero_or_one a with ha | ha <;> rcases Nat.mod_two_eq_zero_or_one b with hb | hb <;> simp [ha, hb]
  · rw [Nat.xor_assoc]
  · rw [Nat.xor_assoc, Nat.xor_comm (b / 2), ← Nat.xor_assoc]
  · rw [Nat.xor_assoc (a / 2), Nat.xor_comm (b / 2) 3988292384, ← Nat.xor_assoc 3988292384, Nat.xor_self, Nat.zero_xor]
theorem turns_xor (k a b : Nat) : turns k (a ^^^ b) = turns k a ^^^ turns k b := by
  induction k with
  | zero => rfl
  | succ k ih => simp [turns, ih, turn1_xor]
theorem turns_turn1 (k x : Nat) : turns k (turn1 x) = turn1 (turns k x) := by
  induction k with
  | zero => rfl
  | succ k ih => simp [turns, ih]
theorem turns_add (j k x : Nat) : turns (j + k) x = turns j (turns k x) := by
  induction j with
  | zero => simp [turns]
  | succ j ih => rw [Nat.succ_add]; simp [turns, ih]
theorem turn1_two_mul (x : Nat) : turn1 (2 * x) = x := by
  unfold turn1; rw [if_neg (by omega)]; omega
theorem turns_pow_mul (k x : Nat) : turns k (2 ^ k * x) = x := by
  induction k generalizing x with
  | zero => simp [turns]
  | succ k ih => rw [turns, Nat.pow_succ, Nat.mul_assoc, ih, turn1_two_mul]
theorem turn1_lt {x : Nat} (h : x < 4294967296) : turn1 x < 4294967296 := by
  unfold turn1; split
  · exact Nat.xor_lt_two_pow (n := 32) (by omega) (by omega)
  · omega
theorem turn1_ne {x : Nat} (h : x < 4294967296) (h0 : x ≠ 0) : turn1 x ≠ 0 := by
  unfold turn1; split
  · intro h1
    have h2 : x / 2 = 3988292384 := by
      have h3 : (x / 2 ^^^ 3988292384) ^^^ 3988292384 = 3988292384 := by rw [h1, Nat.zero_xor]
      rw [Nat.xor_assoc, Nat.xor_self, Nat.xor_zero] at h3; exact h3
    omega
  · omega
theorem turns_lt {x : Nat} (k : Nat) (h : x < 4294967296) : turns k x < 4294967296 := by
  induction k with
  | zero => exact h
  | succ k ih => exact turn1_lt ih
theorem turns_ne {x : Nat} (k : Nat) (h : x < 4294967296) (h0 : x ≠ 0) : turns k x ≠ 0 := by
  induction k with
  | zero => exact h0
  | succ k ih => exact turn1_ne (turns_lt k h) ih
theorem xor_eq_zero {a b : Nat} (h : a ^^^ b = 0) : a = b := by
  have h2 : (a ^^^ b) ^^^ b = b := by rw [h, Nat.zero_xor]
  rw [Nat.xor_assoc, Nat.xor_self, Nat.xor_zero] at h2; exact h2
theorem turns_inj (k : Nat) {a b : Nat} (ha : a < 4294967296) (hb : b < 4294967296) (h : turns k a = turns k b) : a = b := by
  apply Classical.byContradiction; intro hn
  have h1 : turns k (a ^^^ b) = 0 := by rw [turns_xor, h, Nat.xor_self]
  exact turns_ne k (Nat.xor_lt_two_pow (n := 32) (by omega) (by omega)) (fun h2 => hn (xor_eq_zero h2)) h1
theorem byte_lt {x : Nat} (b : UInt8) (h : x < 4294967296) : byte x b < 4294967296 :=
  turns_lt 8 (Nat.xor_lt_two_pow (n := 32) (by omega) (by have := b.toNat_lt; omega))
theorem reg_lt {x : Nat} (l : List UInt8) (h : x < 4294967296) : reg x l < 4294967296 := by
  induction l generalizing x with
  | nil => exact h
  | cons b l ih => exact ih (byte_lt b h)
theorem upd_lt {x : Nat} (l : List UInt8) (h : x < 4294967296) : upd x l < 4294967296 :=
  Nat.xor_lt_two_pow (n := 32) (reg_lt l (Nat.xor_lt_two_pow (n := 32) (by omega) (by omega))) (by omega)
theorem reg_append (x : Nat) (l m : List UInt8) : reg x (l ++ m) = reg (reg x l) m := by simp [reg, List.foldl_append]
theorem upd_append (x : Nat) (l m : List UInt8) : upd x (l ++ m) = upd (upd x l) m := by
  unfold upd; rw [reg_append, Nat.xor_assoc, Nat.xor_self, Nat.xor_zero]

/-- The bytes as one number, the first byte lowest. -/
def le : List UInt8 → Nat
  | [] => 0
  | b :: l => b.toNat + 256 * le l
theorem le_lt (l : List UInt8) : le l < 2 ^ (8 * l.length) := by
  induction l with
  | nil => simp [le]
  | cons b l ih =>
    have := b.toNat_lt
    rw [List.length_cons, Nat.mul_add, Nat.pow_add, le]; omega
theorem add_eq_xor (b x : Nat) (h : b < 256) : b + 256 * x = b ^^^ 256 * x := by
  apply Nat.eq_of_testBit_eq; intro i
  rw [Nat.testBit_xor, show (256 : Nat) = 2 ^ 8 from rfl, Nat.add_comm, Nat.testBit_two_pow_mul_add x (by simpa using h) i, Nat.testBit_two_pow_mul]
  by_cases hi : i < 8
  · simp [hi, Nat.not_le.2 hi]
  · have : b.testBit i = false := Nat.testBit_lt_two_pow (Nat.lt_of_lt_of_le h (by
      have : 2 ^ 8 ≤ 2 ^ i := Nat.pow_le_pow_right (by omega) (by omega)
      simpa using this))
    simp [hi, this, Nat.not_lt.1 hi]
/-- The register is the bytes' number, moved through the register bit by bit. -/
theorem reg_eq (x : Nat) (l : List UInt8) : reg x l = turns (8 * l.length) (x ^^^ le l) := by
  induction l generalizing x with
  | nil => simp [reg, le, turns]
  | cons b l ih =>
    show reg (byte x b) l = _
    have hb := b.toNat_lt
    rw [ih, List.length_cons, Nat.mul_add, turns_add, le, add_eq_xor _ _ (by omega), ← Nat.xor_assoc, turns_xor 8]
    show _ = turns (8 * l.length) (byte x b ^^^ turns 8 (256 * le l))
    rw [show 256 * le l = 2 ^ 8 * le l from rfl, turns_pow_mul]

theorem four_length (n : Nat) : (four n).length = 4 := rfl
theorem le_four (n : Nat) (h : n < 4294967296) : le (four n) = n := by
  simp only [four, le, UInt8.toNat_ofNat']; omega
theorem four_le (l : List UInt8) (h : l.length = 4) : four (le l) = l := by
  match l, h with
  | [a, b, c, d], _ =>
    have ha := a.toNat_lt; have hb := b.toNat_lt; have hc := c.toNat_lt; have hd := d.toNat_lt
    simp only [four, le, List.cons.injEq, and_true, ← UInt8.toNat_inj, UInt8.toNat_ofNat']
    omega
/-- A string ends with its checksum if and only if the register behind all of it is this. -/
theorem ends_iff (p v : List UInt8) (hv : v.length = 4) : v = four (upd 0 p) ↔ reg 4294967295 (p ++ v) = turns 32 4294967295 := by
  rw [reg_append, reg_eq _ v, hv]
  have h1 := reg_lt (x := 4294967295) p (by omega)
  have h2 : le v < 4294967296 := by have := le_lt v; rw [hv] at this; simpa using this
  have e : upd 0 p = reg 4294967295 p ^^^ 4294967295 := by unfold upd; rw [Nat.zero_xor]
  have h3 := upd_lt (x := 0) p (by omega)
  constructor
  · intro h
    have h4 : le v = reg 4294967295 p ^^^ 4294967295 := by rw [h, le_four _ h3, e]
    rw [h4, ← Nat.xor_assoc, Nat.xor_self, Nat.zero_xor]
  · intro h
    have h4 := turns_inj 32 (Nat.xor_lt_two_pow (n := 32) h1 h2) (by omega) h
    have h5 : le v = upd 0 p := by
      rw [e]; generalize reg 4294967295 p = r at *
      rw [← h4, ← Nat.xor_assoc, Nat.xor_self, Nat.zero_xor]
    rw [← h5, four_le v hv]
/-- Two strings of one length that differ by a burst do not both end with their checksums. -/
theorem burst {x t : List UInt8} (hl : x.length = t.length) (a m : Nat) (hm : m < 4294967296) (hm0 : m ≠ 0) (ha : a ≤ 8 * x.length)
    (hd : le x = le t ^^^ 2 ^ a * m) (ht : reg 4294967295 t = turns 32 4294967295) : reg 4294967295 x ≠ turns 32 4294967295 := by
  intro hx
  have h1 : reg 4294967295 x = reg 4294967295 t := hx.trans ht.symm
  rw [reg_eq, reg_eq, hd, hl, ← Nat.xor_assoc, turns_xor] at h1
  have h2 : turns (8 * t.length) (2 ^ a * m) = 0 := by
    have h3 : ∀ y z : Nat, y ^^^ z = y → z = 0 := fun y z h => by
      have h4 : y ^^^ (y ^^^ z) = 0 := by rw [h, Nat.xor_self]
      rw [← Nat.xor_assoc, Nat.xor_self, Nat.zero_xor] at h4; exact h4
    exact h3 _ _ h1
  rw [show 8 * t.length = (8 * t.length - a) + a from by omega, turns_add, turns_pow_mul] at h2
  exact turns_ne _ hm hm0 h2
end Go.Proofs.Ytlgpmcpkddgpmaa.Crc
