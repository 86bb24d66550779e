/- What the packages seal and provisionref33 compute: words as integers, strings as lists of bytes. -/
import Derived.Test.YtlgpmcpkddgpmaaLib
import Derived.Test.YtlgpmcpkddgpmaaCrcMath
namespace Go.Proofs.Ytlgpmcpkddgpmaa
open Go.RowKit
namespace Seal

/-- An integer is a word of 64 bits. -/
structure U64 (x : Int) : Prop where
  lo : 0 ≤ x
  hi : x < 18446744073709551616

def xor (x y : Int) : Int := bits .xor .u64 x y
theorem bits_u64 (op : BinOp) (x y : Int) : U64 (bits op .u64 x y) := by
  unfold bits
  rw [IntKind.wrap_u64]
  exact ⟨Int.emod_nonneg _ (by decide), Int.emod_lt_of_pos _ (by decide)⟩
def mul (x y : Int) : Int := IntKind.u64.wrap (x * y)
/-- The mixing function. -/
def mix (x : Int) : Int :=
  let a := IntKind.u64.wrap (x + 11400714819323198485)
  let b := IntKind.u64.wrap (bits .xor .u64 a (a / 1073741824) * 13787848793156543929)
  let c := IntKind.u64.wrap (bits .xor .u64 b (b / 134217728) * 10723151780598845931)
  bits .xor .u64 c (c / 2147483648)
theorem mix_u64 (x : Int) : U64 (mix x) := by unfold mix; exact bits_u64 _ _ _
/-- One byte more. -/
def fold1 (h : Int) (b : UInt8) : Int := mix (bits .xor .u64 h (IntKind.u64.wrap b.toNat))
def fold (h : Int) (l : List UInt8) : Int := l.foldl fold1 h
theorem fold_u64 (h : Int) (l : List UInt8) (hh : U64 h) : U64 (fold h l) := by
  induction l generalizing h with
  | nil => exact hh
  | cons b l ih => exact ih _ (mix_u64 _)
theorem fold_snoc (h : Int) (l : List UInt8) (b : UInt8) : fold h (l ++ [b]) = fold1 (fold h l) b := by simp [fold]
def seed (key : List UInt8) (nonce : Int) : Int := mix (bits .xor .u64 (fold (mix key.length) key) nonce)
theorem seed_u64 (key : List UInt8) (nonce : Int) : U64 (seed key nonce) := mix_u64 _
def tag (seed : Int) (s : List UInt8) : Int := fold (mix (bits .xor .u64 seed 18446744073709551615)) s
theorem tag_u64 (seed : Int) (s : List UInt8) : U64 (tag seed s) := fold_u64 _ _ (mix_u64 _)
/-- The word j of the key stream. -/
def word (seed : Int) (j : Nat) : Int := mix (bits .xor .u64 seed (mix (j + 1)))
theorem word_u64 (seed : Int) (j : Nat) : U64 (word seed j) := mix_u64 _
/-- The byte i of the key stream. -/
def key (seed : Int) (i : Nat) : UInt8 := UInt8.ofNat ((word seed (i / 8)).toNat / 2 ^ (8 * (i % 8)))
/-- A string combined with the key stream from byte i on. -/
def comb (seed : Int) : Nat → List UInt8 → List UInt8
  | _, [] => []
  | i, b :: l => (b ^^^ key seed i) :: comb seed (i + 1) l
theorem comb_length (seed : Int) (i : Nat) (l : List UInt8) : (comb seed i l).length = l.length := by
  induction l generalizing i with
  | nil => rfl
  | cons b l ih => simp [comb, ih]
theorem comb_comb (seed : Int) (i : Nat) (l : List UInt8) : comb seed i (comb seed i l) = l := by
  induction l generalizing i with
  | nil => rfl
  | cons b l ih => simp [comb, ih, UInt8.xor_assoc]
theorem comb_get (seed : Int) (i : Nat) (l : List UInt8) (k : Nat) (h : k < l.length) : (comb seed i l)[k]'(by rw [comb_length]; exact h) = l[k] ^^^ key seed (i + k) := by
  induction l generalizing i k with
  | nil => simp at h
  | cons b l ih =>
    cases k with
    | zero => simp [comb]
    | succ k => simp only [comb, List.getElem_cons_succ]; rw [ih (i + 1) k (by simpa using h)]; congr 2; omega
/-- The eight bytes of a word. -/
def eight (x : Nat) : List UInt8 := (List.range 8).map fun i => UInt8.ofNat (x / 2 ^ (8 * i))
theorem eight_length (x : Nat) : (eight x).length = 8 := by simp [eight]
theorem eight_take (x k : Nat) (h : k < 8) : (eight x).take (k + 1) = (eight x).take k ++ [UInt8.ofNat (x / 2 ^ (8 * k))] := by
  rw [List.take_succ_eq_append_getElem (by simp [eight]; omega)]; simp [eight]
/-- The word of the first eight bytes. -/
def number (l : List UInt8) : Nat := Crc.le (l.take 8)
theorem le_append (l m : List UInt8) : Crc.le (l ++ m) = Crc.le l + 2 ^ (8 * l.length) * Crc.le m := by
  induction l with
  | nil => simp [Crc.le]
  | cons b l ih =>
    rw [List.cons_append, Crc.le, Crc.le, ih, List.length_cons, Nat.mul_add, show 8 * (l.length + 1) = 8 * l.length + 8 by omega, Nat.pow_add, Nat.add_assoc]
    congr 2
    rw [show (2 : Nat) ^ 8 = 256 from rfl, Nat.mul_comm (2 ^ (8 * l.length)) 256, Nat.mul_assoc]
theorem le_eight (x : Nat) (h : x < 18446744073709551616) : Crc.le (eight x) = x := by
  simp only [eight, show List.range 8 = [0, 1, 2, 3, 4, 5, 6, 7] from rfl, List.map, Crc.le, UInt8.toNat_ofNat', Nat.reduceMul, Nat.reducePow, Nat.div_one]
  omega
theorem le_inj (l m : List UInt8) (hl : l.length = m.length) (h : Crc.le l = Crc.le m) : l = m := by
  induction l generalizing m with
  | nil => exact (List.eq_nil_of_length_eq_zero (by simpa using hl.symm)).symm
  | cons b l ih =>
    cases m with
    | nil => simp at hl
    | cons c m =>
      have hb := b.toNat_lt; have hc := c.toNat_lt
      simp only [Crc.le] at h
      have h1 : b = c := by rw [← UInt8.toNat_inj]; omega
      rw [h1, ih m (by simpa using hl) (by omega)]
theorem eight_number (l : List UInt8) (h : 8 ≤ l.length) : eight (number l) = l.take 8 := by
  apply le_inj
  · rw [eight_length]; simp; omega
  · have h1 := Crc.le_lt (l.take 8)
    rw [List.length_take, Nat.min_eq_left h] at h1
    exact le_eight _ (by simpa [number] using h1)
theorem number_lt (l : List UInt8) : number l < 18446744073709551616 := by
  have h1 := Crc.le_lt (l.take 8)
  have h2 : (l.take 8).length ≤ 8 := by simp; omega
  have h3 : 2 ^ (8 * (l.take 8).length) ≤ 2 ^ (8 * 8) := Nat.pow_le_pow_right (by omega) (by omega)
  have : (2 : Nat) ^ (8 * 8) = 18446744073709551616 := by decide
  unfold number; omega

def check (k : List UInt8) : Int := if k = [] then 1 else if 64 < k.length then 3 else 0
/-- The sealed form before its checksum. -/
def body (key : List UInt8) (nonce : Int) (plain : List UInt8) : List UInt8 :=
  [80, 83, 76, 49] ++ eight nonce.toNat ++ eight (tag (seed key nonce) plain).toNat ++ comb (seed key nonce) 0 plain
/-- The sealed form, at strings of at most MaxBytes. -/
def enc (key : List UInt8) (nonce : Int) (plain : List UInt8) : List UInt8 × Int :=
  if check key ≠ 0 then ([], check key) else if 1048576 < plain.length then ([], 3) else (Crc.app (body key nonce plain), 0)
/-- The nonce, the tag and the bytes of a sealed form. -/
def form (sealed : List UInt8) : Int × Int × List UInt8 × Int :=
  if (Crc.ver sealed).2 ≠ 0 then (0, 0, [], (Crc.ver sealed).2)
  else if (Crc.ver sealed).1.length < 20 ∨ (Crc.ver sealed).1.take 4 ≠ [80, 83, 76, 49] then (0, 0, [], 2)
  else if 1048596 < (Crc.ver sealed).1.length then (0, 0, [], 3)
  else (number ((Crc.ver sealed).1.drop 4), number ((Crc.ver sealed).1.drop 12), (Crc.ver sealed).1.drop 20, 0)
def dec (key sealed : List UInt8) : List UInt8 × Int :=
  if check key ≠ 0 then ([], check key) else if (form sealed).2.2.2 ≠ 0 then ([], (form sealed).2.2.2)
  else if tag (seed key (form sealed).1) (comb (seed key (form sealed).1) 0 (form sealed).2.2.1) ≠ (form sealed).2.1 then ([], 26)
  else (comb (seed key (form sealed).1) 0 (form sealed).2.2.1, 0)
def nonce (sealed : List UInt8) : Int × Int := ((form sealed).1, (form sealed).2.2.2)
def rekey (from_ to_ sealed : List UInt8) : List UInt8 × Int :=
  if (dec from_ sealed).2 ≠ 0 then ([], (dec from_ sealed).2) else enc to_ (nonce sealed).1 (dec from_ sealed).1
end Seal
end Go.Proofs.Ytlgpmcpkddgpmaa
