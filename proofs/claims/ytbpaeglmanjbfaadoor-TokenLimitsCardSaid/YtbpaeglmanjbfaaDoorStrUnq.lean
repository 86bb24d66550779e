/- What Unquote computes, over lists of bytes. No program in sight. -/
import Derived.Test.YtbpaeglmanjbfaaDoorStrSpec
namespace Go.Proofs.YtbpaeglmanjbfaaDoor
namespace Str
open Go.Lib

/-- The value of a hexadecimal digit, or -1. -/
def hexv (b : UInt8) : Int := if 48 ≤ b.toNat ∧ b.toNat ≤ 57 then b.toNat - 48 else if 97 ≤ b.toNat ∧ b.toNat ≤ 102 then b.toNat - 87 else -1
def isHex (b : UInt8) : Bool := decide (0 ≤ hexv b)
/-- The number of digits at the beginning, at most m. -/
def hexN : Nat → List UInt8 → Nat
  | 0, _ => 0
  | _, [] => 0
  | m + 1, b :: l => if isHex b then hexN m l + 1 else 0
/-- The number that n digits make. -/
def hexC (n : Nat) (l : List UInt8) : Nat := (l.take n).foldl (fun c b => 16 * c + (hexv b).toNat) 0
/-- The digits and the brace of an escape: the code point, the bytes read, the error. -/
def point (l : List UInt8) : Nat × Nat × Int :=
  if hexN 6 l = l.length then (0, 0, 40)
  else if l.getD (hexN 6 l) 0 ≠ 125 ∨ hexN 6 l = 0 ∨ (1 < hexN 6 l ∧ l.getD 0 0 = 48) ∨ Utf8.valid (hexC (hexN 6 l) l) = false then (0, 0, 2)
  else (hexC (hexN 6 l) l, hexN 6 l + 1, 0)
/-- An escape behind its backslash: the code point, the bytes read, the error. -/
def escp (l : List UInt8) : Nat × Nat × Int :=
  match l with
  | [] => (0, 0, 40)
  | b :: t =>
    if b = 110 then (10, 1, 0) else if b = 114 then (13, 1, 0) else if b = 116 then (9, 1, 0) else if b = 34 ∨ b = 92 then (b.toNat, 1, 0)
    else if b = 117 then (match t with
      | [] => (0, 0, 40)
      | c :: u => if c = 123 then ((point u).1, (point u).2.1 + 2, (point u).2.2) else (0, 0, 2))
    else (0, 0, 2)
def enc (c : Nat) : List UInt8 := encodeRune c
/-- One character or escape of a literal: its bytes, the bytes read, the error. -/
def one (l : List UInt8) : List UInt8 × Nat × Int :=
  if l.getD 0 0 = 92 then
    (if (escp (l.drop 1)).2.2 ≠ 0 then ([], 0, (escp (l.drop 1)).2.2) else (enc (escp (l.drop 1)).1, (escp (l.drop 1)).2.1 + 1, 0))
  else if Bad (decodeL l) ∨ l.getD 0 0 < 32 ∨ l.getD 0 0 = 127 then ([], 0, 2)
  else (l.take (decodeL l).2, (decodeL l).2, 0)
def unq : Nat → List UInt8 → List UInt8 → Nat → List UInt8 × Nat × Int
  | 0, _, _, _ => ([], 0, 40)
  | f + 1, l, acc, i =>
    if l = [] then ([], 0, 40)
    else if l.getD 0 0 = 34 then (if 4096 < acc.length then ([], 0, 3) else (acc, i + 1, 0))
    else if (one l).2.2 ≠ 0 then ([], 0, (one l).2.2)
    else unq f (l.drop (one l).2.1) (acc ++ (one l).1) (i + (one l).2.1)
def unquote (l : List UInt8) : List UInt8 × Nat × Int :=
  if l = [] then ([], 0, 40) else if l.getD 0 0 ≠ 34 then ([], 0, 2) else unq l.length (l.drop 1) [] 1

theorem hexN_le : ∀ (m : Nat) (l : List UInt8), hexN m l ≤ m ∧ hexN m l ≤ l.length
  | 0, _ => by simp [hexN]
  | m + 1, [] => by simp [hexN]
  | m + 1, b :: l => by
    have := hexN_le m l
    unfold hexN; split <;> simp <;> omega
theorem hexN_end : ∀ (m k : Nat) (l : List UInt8), (∀ j, j < k → isHex (l.getD j 0) = true) → k ≤ l.length → k ≤ m → (k = m ∨ k = l.length ∨ isHex (l.getD k 0) = false) → hexN m l = k
  | 0, k, l, _, _, h3, _ => by simp [hexN]; omega
  | m + 1, k, [], _, h2, _, _ => by simp [hexN] at *; omega
  | m + 1, 0, b :: l, _, _, _, h4 => by
    have : isHex b = false := by
      rcases h4 with h | h | h
      · omega
      · simp at h
      · simpa using h
    simp [hexN, this]
  | m + 1, k + 1, b :: l, h1, h2, h3, h4 => by
    have hb : isHex b = true := by simpa using h1 0 (by omega)
    have ih := hexN_end m k l (fun j hj => by simpa using h1 (j + 1) (by omega)) (by simpa using h2) (by omega) (by
      rcases h4 with h | h | h
      · exact .inl (by omega)
      · exact .inr (.inl (by simpa using h))
      · exact .inr (.inr (by simpa using h)))
    simp [hexN, hb, ih]
theorem hexv_le (b : UInt8) : hexv b ≤ 15 := by
  unfold hexv
  split
  · omega
  · split <;> omega
theorem hexC_succ (n : Nat) (l : List UInt8) (h : n < l.length) : hexC (n + 1) l = 16 * hexC n l + (hexv l[n]).toNat := by
  unfold hexC
  rw [List.take_succ_eq_append_getElem h, List.foldl_append]; rfl
theorem hexC_lt : ∀ (n : Nat) (l : List UInt8), n ≤ l.length → hexC n l < 16 ^ n
  | 0, l, _ => by simp [hexC]
  | n + 1, l, h => by
    have ih := hexC_lt n l (by omega)
    have := hexv_le l[n]
    rw [hexC_succ n l (by omega), Nat.pow_succ]; omega
theorem enc_length (c : Nat) : 1 ≤ (enc c).length ∧ (enc c).length ≤ 4 := by
  have := encodeRuneZ_length c
  simpa [enc, encodeRune] using this
theorem unq_step (f : Nat) (l acc : List UInt8) (i : Nat) (b : List UInt8) (n : Nat) (h1 : l ≠ []) (h2 : l.getD 0 0 ≠ 34) (h3 : one l = (b, n, (0 : Int))) : unq (f + 1) l acc i = unq f (l.drop n) (acc ++ b) (i + n) := by
  rw [unq, if_neg h1, if_neg h2, h3, if_neg (by simp)]
theorem unq_err (f : Nat) (l acc : List UInt8) (i : Nat) (b : List UInt8) (n : Nat) (e : Int) (h1 : l ≠ []) (h2 : l.getD 0 0 ≠ 34) (h3 : one l = (b, n, e)) (he : e ≠ 0) : unq (f + 1) l acc i = ([], 0, e) := by
  rw [unq, if_neg h1, if_neg h2, h3, if_pos (by simpa using he)]
end Str
end Go.Proofs.YtbpaeglmanjbfaaDoor
