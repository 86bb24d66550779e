/- What the packages token and provisionref13 compute, over lists of bytes. No program in sight. -/
import Derived.Test.YtbpaeglmanjbfaaDoorStrMath
namespace Go.Proofs.YtbpaeglmanjbfaaDoor
namespace Tok
open Go.Lib

def isLetter (b : UInt8) : Bool := b == 95 || (97 ≤ b && b ≤ 122) || (65 ≤ b && b ≤ 90)
def isDigit (b : UInt8) : Bool := 48 ≤ b && b ≤ 57
def isBlank (b : UInt8) : Bool := b == 32 || b == 9 || b == 13
def isOne (b : UInt8) : Bool := [123, 125, 91, 93, 40, 41, 44, 61, 60, 62, 43, 45, 42, 47, 37, 33, 63, 58, 46].contains b
def isTwo (a b : UInt8) : Bool := (a == 61 && b == 62) || (a == 61 && b == 61) || (a == 33 && b == 61) || (a == 60 && b == 61) || (a == 62 && b == 61) || (a == 38 && b == 38) || (a == 124 && b == 124)
/-- The length of the sign at the beginning; 0: there is none. -/
def signN : List UInt8 → Nat
  | [] => 0
  | [a] => if isOne a then 1 else 0
  | a :: b :: _ => if isTwo a b then 2 else if isOne a then 1 else 0
/-- The number of bytes at the beginning with a property. -/
def spanN (p : UInt8 → Bool) : List UInt8 → Nat
  | [] => 0
  | b :: l => if p b then spanN p l + 1 else 0
def blanksN (l : List UInt8) : Nat := spanN isBlank l
def commentN (l : List UInt8) : Nat := if l.head? = some 35 then spanN (· != 10) l else 0
def skipN (l : List UInt8) : Nat := blanksN l + commentN (l.drop (blanksN l))
/-- The width of the character at the beginning; 0: it is none. -/
def charN (l : List UInt8) : Nat := if l = [] ∨ (decodeL l).1 < 32 ∨ (decodeL l).1 = 127 ∨ ((decodeL l).1 = 65533 ∧ (decodeL l).2 = 1) then 0 else (decodeL l).2

/-- What is read: n bytes; an error with its offset from here; or the text ends in a string. -/
inductive R where
  | ok (n : Nat)
  | err (k : Int) (at' : Nat)
  | trunc
deriving DecidableEq
def R.up (m : Nat) : R → R
  | .ok n => .ok (m + n)
  | .err k a => .err k (m + a)
  | .trunc => .trunc
theorem R.up_up (m n : Nat) (r : R) : (r.up n).up m = r.up (m + n) := by cases r <;> simp [R.up, Nat.add_assoc]
theorem R.up_zero (r : R) : r.up 0 = r := by cases r <;> simp [R.up]

/-- The source of a string, up to its quotation mark; 'inner' reads an interpolation. -/
def srcW (inner : List UInt8 → R) : Nat → List UInt8 → R
  | 0, _ => .trunc
  | f + 1, l =>
    if l = [] then .trunc
    else if l.head? = some 34 then .ok 0
    else if l.take 3 = [36, 36, 123] then (srcW inner f (l.drop 3)).up 3
    else if l.take 2 = [36, 123] then
      match inner l with
      | .ok n => (srcW inner f (l.drop n)).up n
      | r => r
    else if l.head? = some 92 then
      if l.drop 1 = [] then .trunc
      else if charN (l.drop 1) = 0 then .err 2 1
      else (srcW inner f (l.drop (1 + charN (l.drop 1)))).up (1 + charN (l.drop 1))
    else if charN l = 0 then .err 2 0
    else (srcW inner f (l.drop (charN l))).up (charN l)
/-- A token that begins here; 'src' reads the source of a string. -/
def oneW (src : List UInt8 → R) (l : List UInt8) : R :=
  match l with
  | [] => .err 2 0
  | b :: t =>
    if b = 10 then .ok 1
    else if isLetter b then (if 64 < spanN (fun c => isLetter c || isDigit c) l then .err 7 0 else .ok (spanN (fun c => isLetter c || isDigit c) l))
    else if isDigit b then .ok (spanN isDigit l)
    else if b = 34 then
      match src t with
      | .ok n => .ok (n + 2)
      | r => r.up 1
    else if signN l = 0 then .err 2 0
    else .ok (signN l)
/-- The tokens of an interpolation, up to the brace that closes it; 'opened' braces are open within. -/
def innW (one : List UInt8 → R) : Nat → Nat → List UInt8 → R
  | 0, _, _ => .trunc
  | f + 1, opened, l =>
    if l.drop (blanksN l) = [] then .trunc
    else match one (l.drop (blanksN l)) with
      | .ok n =>
        if (l.drop (blanksN l)).head? = some 125 then
          (if opened = 0 then .ok (blanksN l + n) else (innW one f (opened - 1) (l.drop (blanksN l + n))).up (blanksN l + n))
        else (innW one f (if (l.drop (blanksN l)).head? = some 123 then opened + 1 else opened) (l.drop (blanksN l + n))).up (blanksN l + n)
      | r => r.up (blanksN l)
/-- The source of a string in which interpolations may be nested D deep. -/
def src : Nat → List UInt8 → R
  | 0, l => srcW (fun _ => .err 4 0) (l.length + 1) l
  | D + 1, l => srcW (fun l => (innW (oneW (src D)) (l.length + 1) 0 (l.drop 2)).up 2) (l.length + 1) l
def one (D : Nat) (l : List UInt8) : R := oneW (src D) l
end Tok
end Go.Proofs.YtbpaeglmanjbfaaDoor
