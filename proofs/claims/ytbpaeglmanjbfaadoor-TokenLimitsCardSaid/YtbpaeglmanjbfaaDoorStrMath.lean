/- Plain facts on UTF-8: the decoder of provisionref02 is the model's, but for invalid bytes. No program in sight. -/
import Derived.Lib.TrimUEq
import Derived.Lib.ValidLaws
import Derived.Lib.RuneCount
import Derived.Lib.QuoteLoop
import Derived.Laws.BitsAllLaws
namespace Go.Proofs.YtbpaeglmanjbfaaDoor
namespace Str
open Go.Lib

/-- Byte i of s lies from lo to hi. -/
def inB (s : ByteArray) (i : Nat) (lo hi : Int) : Bool := decide (∃ h : i < s.size, lo ≤ (s[i].toNat : Int) ∧ (s[i].toNat : Int) ≤ hi)
/-- What the decoder answers at an invalid byte. -/
def Bad (d : Nat × Nat) : Prop := d.1 = 65533 ∧ d.2 = 1
instance (d : Nat × Nat) : Decidable (Bad d) := by unfold Bad; infer_instance
/-- Decode of provisionref02. -/
def refDec (s : ByteArray) (i : Nat) : Nat × Nat := if i < s.size ∧ ¬ Bad (Utf8.decode s i) then Utf8.decode s i else (0, 0)

theorem get_lt (s : ByteArray) (i : Nat) (h : i < s.size) : (s.get! i).toNat = s[i].toNat := by
  rw [show s.get! i = s[i] by simp [ByteArray.get!, h]; rfl]
theorem inB_true {s : ByteArray} {i : Nat} {lo hi : Int} (h : inB s i lo hi = true) : i < s.size ∧ lo ≤ ((s.get! i).toNat : Int) ∧ ((s.get! i).toNat : Int) ≤ hi := by
  obtain ⟨h1, h2, h3⟩ := of_decide_eq_true h
  rw [get_lt s i h1]; exact ⟨h1, h2, h3⟩
theorem inB_false {s : ByteArray} {i : Nat} {lo hi : Int} (h : inB s i lo hi = false) : ¬ (i < s.size ∧ lo ≤ ((s.get! i).toNat : Int) ∧ ((s.get! i).toNat : Int) ≤ hi) := by
  intro ⟨h1, h2, h3⟩
  rw [get_lt s i h1] at h2 h3
  exact of_decide_eq_false h ⟨h1, h2, h3⟩

theorem refDec_end (s : ByteArray) (i : Nat) (h : ¬ i < s.size) : refDec s i = (0, 0) := by unfold refDec; rw [if_neg (fun hh => h hh.1)]
theorem refDec_good (s : ByteArray) (i c n : Nat) (h : i < s.size) (hd : Utf8.decode s i = (c, n)) (hb : ¬ (c = 65533 ∧ n = 1)) : refDec s i = (c, n) := by
  unfold refDec; rw [hd, if_pos ⟨h, hb⟩]
theorem refDec_bad (s : ByteArray) (i : Nat) (hd : Utf8.decode s i = (65533, 1)) : refDec s i = (0, 0) := by
  unfold refDec; rw [hd, if_neg (by simp [Bad])]

section
variable (s : ByteArray) (i : Nat) (hi : i < s.size)
include hi
theorem refDec_ascii (h : s[i].toNat < 128) : refDec s i = (s[i].toNat, 1) := by
  refine refDec_good s i _ _ hi ?_ (by omega)
  rw [decode_at, get_lt s i hi]; simp [decodeN, h]
theorem refDec_lead (h : (128 ≤ s[i].toNat ∧ s[i].toNat < 194) ∨ 245 ≤ s[i].toNat) : refDec s i = (0, 0) := by
  refine refDec_bad s i ?_
  rw [decode_at]
  have hb := s[i].toNat_lt
  exact decodeN_bad _ _ _ _ _ (by rw [get_lt s i hi]; omega)
theorem refDec_two (h1 : 194 ≤ s[i].toNat) (h2 : s[i].toNat ≤ 223) (hc : inB s (i + 1) 128 191 = true) :
    refDec s i = (s[i].toNat % 32 * 64 + (s.get! (i + 1)).toNat % 64, 2) := by
  obtain ⟨c1, c2, c3⟩ := inB_true hc
  refine refDec_good s i _ _ hi ?_ (by omega)
  rw [decode_at, get_lt s i hi]
  unfold decodeN
  rw [if_neg (by omega), if_pos (by omega), if_pos (by omega)]
theorem refDec_two_no (h1 : 194 ≤ s[i].toNat) (h2 : s[i].toNat ≤ 223) (hc : inB s (i + 1) 128 191 = false) : refDec s i = (0, 0) := by
  have c1 := inB_false hc
  refine refDec_bad s i ?_
  rw [decode_at, get_lt s i hi]
  have hb := (s.get! (i + 1)).toNat_lt
  unfold decodeN
  rw [if_neg (by omega), if_neg (by omega), if_neg (by omega), if_neg (by omega)]
theorem refDec_three (lo hh : Int) (h1 : 224 ≤ s[i].toNat) (h2 : s[i].toNat ≤ 239) (hlo : lo = if s[i].toNat = 224 then 160 else 128) (hhi : hh = if s[i].toNat = 237 then 159 else 191)
    (hc : inB s (i + 1) lo hh = true) (hd : inB s (i + 2) 128 191 = true) :
    refDec s i = (s[i].toNat % 16 * 4096 + (s.get! (i + 1)).toNat % 64 * 64 + (s.get! (i + 2)).toNat % 64, 3) := by
  obtain ⟨c1, c2, c3⟩ := inB_true hc
  obtain ⟨d1, d2, d3⟩ := inB_true hd
  refine refDec_good s i _ _ hi ?_ (by omega)
  rw [decode_at, get_lt s i hi]
  unfold decodeN
  rw [if_neg (by omega), if_neg (by omega), if_pos (by split at hlo <;> split at hhi <;> omega), if_pos (by split at hlo <;> split at hhi <;> omega)]
theorem refDec_three_no (lo hh : Int) (h1 : 224 ≤ s[i].toNat) (h2 : s[i].toNat ≤ 239) (hlo : lo = if s[i].toNat = 224 then 160 else 128) (hhi : hh = if s[i].toNat = 237 then 159 else 191)
    (hc : inB s (i + 1) lo hh = false ∨ inB s (i + 2) 128 191 = false) : refDec s i = (0, 0) := by
  refine refDec_bad s i ?_
  rw [decode_at, get_lt s i hi]
  have hb := (s.get! (i + 1)).toNat_lt
  have hb2 := (s.get! (i + 2)).toNat_lt
  unfold decodeN
  rw [if_neg (by omega), if_neg (by omega)]
  rcases hc with hc | hc
  · have c1 := inB_false hc
    split
    · rw [if_neg (by split at hlo <;> split at hhi <;> omega)]
    · rw [if_neg (by omega)]
  · have c1 := inB_false hc
    rw [if_neg (by omega), if_neg (by omega)]
theorem refDec_four (lo hh : Int) (h1 : 240 ≤ s[i].toNat) (h2 : s[i].toNat ≤ 244) (hlo : lo = if s[i].toNat = 240 then 144 else 128) (hhi : hh = if s[i].toNat = 244 then 143 else 191)
    (hc : inB s (i + 1) lo hh = true) (hd : inB s (i + 2) 128 191 = true) (he : inB s (i + 3) 128 191 = true) :
    refDec s i = (s[i].toNat % 8 * 262144 + (s.get! (i + 1)).toNat % 64 * 4096 + (s.get! (i + 2)).toNat % 64 * 64 + (s.get! (i + 3)).toNat % 64, 4) := by
  obtain ⟨c1, c2, c3⟩ := inB_true hc
  obtain ⟨d1, d2, d3⟩ := inB_true hd
  obtain ⟨e1, e2, e3⟩ := inB_true he
  refine refDec_good s i _ _ hi ?_ (by omega)
  rw [decode_at, get_lt s i hi]
  unfold decodeN
  rw [if_neg (by omega), if_neg (by omega), if_neg (by omega), if_pos (by split at hlo <;> split at hhi <;> omega), if_pos (by split at hlo <;> split at hhi <;> omega)]
theorem refDec_four_no (lo hh : Int) (h1 : 240 ≤ s[i].toNat) (h2 : s[i].toNat ≤ 244) (hlo : lo = if s[i].toNat = 240 then 144 else 128) (hhi : hh = if s[i].toNat = 244 then 143 else 191)
    (hc : inB s (i + 1) lo hh = false ∨ inB s (i + 2) 128 191 = false ∨ inB s (i + 3) 128 191 = false) : refDec s i = (0, 0) := by
  refine refDec_bad s i ?_
  rw [decode_at, get_lt s i hi]
  have hb := (s.get! (i + 1)).toNat_lt
  have hb2 := (s.get! (i + 2)).toNat_lt
  have hb3 := (s.get! (i + 3)).toNat_lt
  unfold decodeN
  rw [if_neg (by omega), if_neg (by omega), if_neg (by omega)]
  rcases hc with hc | hc | hc
  · have c1 := inB_false hc
    split
    · rw [if_neg (by split at hlo <;> split at hhi <;> omega)]
    · rfl
  · have c1 := inB_false hc
    rw [if_neg (by omega)]
  · have c1 := inB_false hc
    rw [if_neg (by omega)]
end
end Str
end Go.Proofs.YtbpaeglmanjbfaaDoor
