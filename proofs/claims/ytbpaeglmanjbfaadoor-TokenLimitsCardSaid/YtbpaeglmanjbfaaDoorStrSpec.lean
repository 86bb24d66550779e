/- What the functions of the packages strlit and provisionref02 compute, over lists of bytes. No program in sight. -/
import Derived.Test.YtbpaeglmanjbfaaDoorStrMath
namespace Go.Proofs.YtbpaeglmanjbfaaDoor
namespace Str
open Go.Lib

/-- A hexadecimal digit. -/
def hd (d : Nat) : UInt8 := [48, 49, 50, 51, 52, 53, 54, 55, 56, 57, 97, 98, 99, 100, 101, 102].getD d 0
/-- A byte in hexadecimal. -/
def hexL (c : Nat) : List UInt8 := if c < 16 then [hd c] else [hd (c / 16), hd (c % 16)]
theorem hexL_length (c : Nat) : 1 ≤ (hexL c).length ∧ (hexL c).length ≤ 2 := by unfold hexL; split <;> simp
/-- The text of a byte in a literal. -/
def esc (b : UInt8) : List UInt8 :=
  if b = 10 then [92, 110] else if b = 13 then [92, 114] else if b = 9 then [92, 116] else if b = 34 then [92, 34] else if b = 92 then [92, 92]
  else if b < 32 ∨ b = 127 then [92, 117, 123] ++ hexL b.toNat ++ [125] else [b]
theorem esc_length (b : UInt8) : 1 ≤ (esc b).length ∧ (esc b).length ≤ 6 := by
  have := hexL_length b.toNat
  unfold esc
  repeat' split
  all_goals simp
  omega
def quote (l : List UInt8) : List UInt8 := 34 :: (l.flatMap esc ++ [34])
theorem flatMap_esc_length (l : List UInt8) : l.length ≤ (l.flatMap esc).length ∧ (l.flatMap esc).length ≤ 6 * l.length := by
  induction l with
  | nil => simp
  | cons b l ih =>
    have := esc_length b
    simp only [List.flatMap_cons, List.length_append, List.length_cons]; omega
/-- An escaped template. -/
def escape : List UInt8 → List UInt8
  | [] => []
  | 36 :: 123 :: l => 36 :: 36 :: 123 :: escape l
  | b :: l => b :: escape l
def valid (l : List UInt8) : Bool := decide (l.length ≤ 4096) && validD l

theorem decL (s : ByteArray) (k : Nat) : decodeL (s.data.toList.drop k) = Utf8.decode s k := decodeL_drop s k
theorem dec_width (s : ByteArray) (k : Nat) (h : k < s.size) : 1 ≤ (Utf8.decode s k).2 ∧ k + (Utf8.decode s k).2 ≤ s.size := by
  refine ⟨decode_width_pos s k h, ?_⟩
  have h1 := decodeL_le (s.data.toList.drop k) (by intro h2; have := congrArg List.length h2; simp at this; omega)
  rw [decL] at h1
  simp at h1
  omega
theorem valid_at (s : ByteArray) (k : Nat) (h : k < s.size) : validD (s.data.toList.drop k) = if Bad (Utf8.decode s k) then false else validD (s.data.toList.drop (k + (Utf8.decode s k).2)) := by
  rw [validD_step _ (by intro h2; have := congrArg List.length h2; simp at this; omega), decL, List.drop_drop]
  rfl
theorem refDec_cases (s : ByteArray) (k : Nat) (h : k < s.size) :
    (Bad (Utf8.decode s k) ∧ refDec s k = (0, 0)) ∨ (¬ Bad (Utf8.decode s k) ∧ refDec s k = Utf8.decode s k) := by
  by_cases hb : Bad (Utf8.decode s k)
  · exact .inl ⟨hb, by unfold refDec; rw [if_neg (fun hh => hh.2 hb)]⟩
  · exact .inr ⟨hb, by unfold refDec; rw [if_pos ⟨h, hb⟩]⟩
theorem refDec_width (s : ByteArray) (k : Nat) (h : k < s.size) : max (refDec s k).2 1 = (Utf8.decode s k).2 := by
  have hw := (dec_width s k h).1
  rcases refDec_cases s k h with ⟨hb, he⟩ | ⟨_, he⟩
  · rw [he, hb.2]; rfl
  · rw [he]; omega
theorem rc_step (s : ByteArray) (f k : Nat) (h : k < s.size) : runeCountFrom s (f + 1) k = 1 + runeCountFrom s f (k + (Utf8.decode s k).2) := by
  rw [runeCountFrom, if_pos h]
end Str
end Go.Proofs.YtbpaeglmanjbfaaDoor
