/- The tokens of a text are accepted, and their format is no longer than the text. No program in sight. -/
import Derived.Test.YtbpaeglmanjbfaaDoorTokChain
import Derived.Test.YtbpaeglmanjbfaaDoorTokCheck
namespace Go.Proofs.YtbpaeglmanjbfaaDoor
set_option linter.unusedSimpArgs false
set_option linter.unusedVariables false
namespace Tok
open Go.Lib
/-- What a token's reading says, by its first byte. -/
theorem one_cases (D : Nat) (b : UInt8) (t : List UInt8) (n : Nat) (h : one D (b :: t) = .ok n) :
    (b = 10 ∧ n = 1) ∨ (b ≠ 10 ∧ isLetter b = true ∧ n = spanN (fun c => isLetter c || isDigit c) (b :: t) ∧ n ≤ 64) ∨ (b ≠ 10 ∧ isLetter b = false ∧ isDigit b = true ∧ n = spanN isDigit (b :: t)) ∨
    (b = 34 ∧ ∃ m, src D t = .ok m ∧ n = m + 2) ∨ (b ≠ 10 ∧ isLetter b = false ∧ isDigit b = false ∧ b ≠ 34 ∧ n = signN (b :: t) ∧ n ≠ 0) := by
  simp only [one, oneW] at h
  by_cases h10 : b = 10
  · rw [if_pos h10] at h; injection h with h; exact .inl ⟨h10, h.symm⟩
  rw [if_neg h10] at h
  by_cases hl : isLetter b = true
  · rw [if_pos hl] at h
    split at h
    · cases h
    · injection h with h; exact .inr (.inl ⟨h10, hl, h.symm, by omega⟩)
  rw [if_neg hl] at h
  have hl' : isLetter b = false := by simpa using hl
  by_cases hd : isDigit b = true
  · rw [if_pos hd] at h; injection h with h; exact .inr (.inr (.inl ⟨h10, hl', hd, h.symm⟩))
  rw [if_neg hd] at h
  have hd' : isDigit b = false := by simpa using hd
  by_cases h34 : b = 34
  · rw [if_pos h34] at h
    split at h
    · next m hm => injection h with h; exact .inr (.inr (.inr (.inl ⟨h34, m, hm, h.symm⟩)))
    · next hno => exact absurd (up_ok h) (by rintro ⟨n', h1, _⟩; exact hno _ h1)
  rw [if_neg h34] at h
  split at h
  · cases h
  · next h0 => injection h with h; exact .inr (.inr (.inr (.inr ⟨h10, hl', hd', h34, h.symm, by omega⟩)))
theorem span_take (q : UInt8 → Bool) : ∀ l : List UInt8, spanN q (l.take (spanN q l)) = spanN q l
  | [] => rfl
  | b :: l => by
    cases hb : q b with
    | true => simp only [spanN, hb, if_true, List.take_succ_cons]; rw [span_take q l]
    | false => simp [spanN, hb]
theorem sign_take (b : UInt8) (t : List UInt8) (h : signN (b :: t) ≠ 0) : signN ((b :: t).take (signN (b :: t))) = signN (b :: t) := by
  match t with
  | [] =>
    simp only [signN] at h ⊢
    split at h
    · next ho => simp [ho, signN]
    · exact absurd rfl h
  | c :: t =>
    simp only [signN] at h ⊢
    by_cases h2 : isTwo b c = true
    · rw [if_pos h2]; simp [signN, h2]
    · rw [if_neg h2] at h ⊢
      split at h
      · next ho => simp [ho, signN]
      · exact absurd rfl h
theorem kindOf_34 (b : UInt8) : kindOf b = 3 ↔ b = 34 := by
  unfold kindOf
  constructor
  · intro h
    split at h
    · omega
    · split at h
      · omega
      · split at h
        · omega
        · split at h
          · assumption
          · omega
  · rintro rfl; rfl
theorem one_take (D : Nat) (b : UInt8) (t : List UInt8) (n : Nat) (h : one D (b :: t) = .ok n) : one D ((b :: t).take n) = .ok n := by
  rcases one_cases D b t n h with ⟨rfl, rfl⟩ | ⟨h10, hl, hn, h64⟩ | ⟨h10, hl, hd, hn⟩ | ⟨rfl, m, hm, rfl⟩ | ⟨h10, hl, hd, h34, hn, hn0⟩
  · rfl
  · obtain ⟨k, rfl⟩ : ∃ k, n = k + 1 := ⟨n - 1, by simp [spanN, hl] at hn; omega⟩
    have hs := span_take (fun c => isLetter c || isDigit c) (b :: t)
    rw [← hn] at hs
    rw [List.take_succ_cons] at hs ⊢
    simp only [one, oneW]
    rw [if_neg h10, if_pos hl, hs, if_neg (by omega)]
  · obtain ⟨k, rfl⟩ : ∃ k, n = k + 1 := ⟨n - 1, by simp [spanN, hd] at hn; omega⟩
    have hs := span_take isDigit (b :: t)
    rw [← hn] at hs
    rw [List.take_succ_cons] at hs ⊢
    simp only [one, oneW]
    rw [if_neg h10, if_neg (by simp [hl]), if_pos hd, hs]
  · have h1 : src D (t.take (m + 1) ++ []) = .ok m := by
      have hs34 := hm
      rw [src_innE] at hs34
      have h34 := srcW_34 _ _ _ _ hs34
      have hlt : m < t.length := by
        rcases Nat.lt_or_ge m t.length with h | h
        · exact h
        · rw [List.getElem?_eq_none h] at h34; cases h34
      have ht : t.take (m + 1) ++ t.drop (m + 1) = t := List.take_append_drop _ _
      exact src_local D (t.take (m + 1)) (t.drop (m + 1)) [] m (by rw [ht]; exact hm) (by rw [List.length_take]; omega)
    rw [List.append_nil] at h1
    rw [show m + 2 = (m + 1) + 1 from rfl, List.take_succ_cons]
    simp only [one, oneW]
    rw [if_neg (by decide), if_neg (by decide), if_neg (by decide), if_pos trivial, h1]
  · have hs := sign_take b t (by omega)
    rw [← hn] at hs
    obtain ⟨k, rfl⟩ : ∃ k, n = k + 1 := ⟨n - 1, by omega⟩
    rw [List.take_succ_cons] at hs ⊢
    simp only [one, oneW]
    rw [if_neg h10, if_neg (by simp [hl]), if_neg (by simp [hd]), if_neg h34, hs, if_neg hn0]
/-- The source of a token that was read are the bytes that were read. -/
theorem source_at (D : Nat) (b : UInt8) (t : List UInt8) (n : Nat) (a : Int) (h : one D (b :: t) = .ok n) : sourceL (kindL (b :: t), textL (b :: t) n, a) = (b :: t).take n := by
  show (if kindOf b = 3 then _ else _) = _
  by_cases h34 : b = 34
  · subst h34
    rw [if_pos (by rfl)]
    rcases one_cases D 34 t n h with ⟨h, _⟩ | ⟨_, hl, _⟩ | ⟨_, _, hd, _⟩ | ⟨_, m, hm, rfl⟩ | ⟨_, _, _, hh, _⟩
    · exact absurd h (by decide)
    · exact absurd hl (by decide)
    · exact absurd hd (by decide)
    · rw [src_innE] at hm
      have h34 := srcW_34 _ _ _ _ hm
      have e : textL (34 :: t) (m + 2) = t.take m := by unfold textL; simp
      rw [show (kindL (34 :: t), textL (34 :: t) (m + 2), a).2.1 = textL (34 :: t) (m + 2) from rfl, e, show m + 2 = (m + 1) + 1 from rfl, List.take_succ_cons, List.take_add_one, h34]
      rfl
    · exact absurd rfl hh
  · rw [if_neg (fun h => h34 ((kindOf_34 b).1 h))]
    show textL (b :: t) n = _
    unfold textL
    rw [if_neg (by simpa using h34)]
theorem kindOf_le (b : UInt8) : 1 ≤ kindOf b ∧ kindOf b ≤ 5 := by
  unfold kindOf
  repeat' split
  all_goals omega
theorem begins_cons (b : UInt8) (t : List UInt8) : beginsB (b :: t) = (isLetter b || isDigit b || b == 34 || b == 10 || signN (b :: t) != 0) := rfl
theorem valid_at (b : UInt8) (t : List UInt8) (n : Nat) (a : Int) (h : one 32 (b :: t) = .ok n) : validB (kindL (b :: t), textL (b :: t) n, a) = true := by
  have hp := (one_len' 32 _ _ h)
  obtain ⟨k, rfl⟩ : ∃ k, n = k + 1 := ⟨n - 1, by omega⟩
  have h1 := one_take 32 b t _ h
  have h2 := source_at 32 b t _ a h
  have hlen : ((b :: t).take (k + 1)).length = k + 1 := by rw [List.length_take]; omega
  unfold validB preB
  rw [h2, h1, hlen]
  have hb : beginsB ((b :: t).take (k + 1)) = true := by
    rw [List.take_succ_cons, begins_cons]
    rcases one_cases 32 b t _ h with ⟨rfl, _⟩ | ⟨_, hl, _⟩ | ⟨_, _, hd, _⟩ | ⟨rfl, _⟩ | ⟨_, _, _, _, hn, hn0⟩
    · simp
    · simp [hl]
    · simp [hd]
    · simp
    · have hs := sign_take b t (by omega)
      rw [← hn, List.take_succ_cons] at hs
      simp [hs]
  rw [hb]
  have hk := kindOf_le b
  have e1 : kindL ((b :: t).take (k + 1)) = kindOf b := by rw [List.take_succ_cons]; rfl
  have e2 : kindL (b :: t) = kindOf b := rfl
  rw [e1, e2]
  simp [hk.1, hk.2]
end Tok
end Go.Proofs.YtbpaeglmanjbfaaDoor
