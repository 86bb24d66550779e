/- The format of a text's tokens is no longer than the text. No program in sight. -/
import Derived.Test.YtbpaeglmanjbfaaDoorTokShort
namespace Go.Proofs.YtbpaeglmanjbfaaDoor
set_option linter.unusedSimpArgs false
set_option linter.unusedVariables false
namespace Tok
open Go.Lib
theorem span_at (q : UInt8 → Bool) : ∀ (l : List UInt8) (c : UInt8) (r : List UInt8), l.drop (spanN q l) = c :: r → q c = false
  | [], c, r, h => by simp at h
  | b :: l, c, r, h => by
    cases hb : q b with
    | true => simp only [spanN, hb, if_true, List.drop_succ_cons] at h; exact span_at q l c r h
    | false => simp only [spanN, hb, Bool.false_eq_true, if_false, List.drop_zero] at h; injection h with h _; rw [← h]; exact hb
theorem kindOf_1 (b : UInt8) (h : kindOf b = 1) : isLetter b = true ∧ b ≠ 10 := by
  unfold kindOf at h
  split at h
  · omega
  · next h10 => split at h
                · next hl => exact ⟨hl, h10⟩
                · split at h
                  · omega
                  · split at h <;> omega
theorem kindOf_2 (b : UInt8) (h : kindOf b = 2) : isDigit b = true ∧ isLetter b = false ∧ b ≠ 10 := by
  unfold kindOf at h
  split at h
  · omega
  · next h10 => split at h
                · omega
                · next hl => split at h
                             · next hd => exact ⟨hd, by simpa using hl, h10⟩
                             · split at h <;> omega
theorem kindOf_4 (b : UInt8) (h : kindOf b = 4) : isDigit b = false ∧ isLetter b = false ∧ b ≠ 10 ∧ b ≠ 34 := by
  unfold kindOf at h
  split at h
  · omega
  · next h10 => split at h
                · omega
                · next hl => split at h
                             · omega
                             · next hd => split at h
                                          · omega
                                          · next h34 => exact ⟨by simpa using hd, by simpa using hl, h10, h34⟩
theorem text_head (b : UInt8) (t : List UInt8) (n : Nat) (hn : 1 ≤ n) (h : b ≠ 34) : textL (b :: t) n = b :: t.take (n - 1) := by
  unfold textL
  rw [if_neg (by simpa using h)]
  obtain ⟨k, rfl⟩ : ∃ k, n = k + 1 := ⟨n - 1, by omega⟩
  rfl
/-- Between two tokens that stand side by side no blank is wanted. -/
theorem adjacent (b : UInt8) (t : List UInt8) (n : Nat) (h : one 32 (b :: t) = .ok n) (c : UInt8) (r : List UInt8) (hd : (b :: t).drop n = c :: r) (m : Nat) (h2 : one 32 (c :: r) = .ok m) (a a' : Int) :
    apartT (kindL (b :: t), textL (b :: t) n, a) (kindL (c :: r), textL (c :: r) m, a') = false := by
  have hm := (one_len' 32 _ _ h2).1
  show apartB (kindOf b) (textL (b :: t) n) (kindOf c) (textL (c :: r) m) = false
  unfold apartB
  by_cases k1 : kindOf b = 1
  · rw [if_pos k1]
    obtain ⟨hl, h10⟩ := kindOf_1 b k1
    rcases one_cases 32 b t n h with ⟨rfl, _⟩ | ⟨_, _, hn, _⟩ | ⟨_, hl', _⟩ | ⟨rfl, _⟩ | ⟨_, hl', _⟩
    · exact absurd rfl h10
    · rw [hn] at hd
      have hc := span_at _ _ _ _ hd
      simp only [Bool.or_eq_false_iff] at hc
      have e1 : (kindOf c == 1) = false := by simp; intro h; rw [(kindOf_1 c h).1] at hc; simp at hc
      have e2 : (kindOf c == 2) = false := by simp; intro h; rw [(kindOf_2 c h).1] at hc; simp at hc
      rw [e1, e2]; rfl
    · rw [hl] at hl'; cases hl'
    · exact absurd hl (by decide)
    · rw [hl] at hl'; cases hl'
  rw [if_neg k1]
  by_cases k2 : kindOf b = 2
  · rw [if_pos k2]
    obtain ⟨hdg, hl, h10⟩ := kindOf_2 b k2
    rcases one_cases 32 b t n h with ⟨rfl, _⟩ | ⟨_, hl', _⟩ | ⟨_, _, _, hn⟩ | ⟨rfl, _⟩ | ⟨_, _, hd', _⟩
    · exact absurd rfl h10
    · rw [hl] at hl'; cases hl'
    · rw [hn] at hd
      have hc := span_at _ _ _ _ hd
      simp; intro h; rw [(kindOf_2 c h).1] at hc; simp at hc
    · exact absurd hdg (by decide)
    · rw [hdg] at hd'; cases hd'
  rw [if_neg k2]
  by_cases k4 : kindOf b = 4 ∧ kindOf c = 4
  · rw [if_pos k4]
    obtain ⟨hdg, hl, h10, h34⟩ := kindOf_4 b k4.1
    have hc34 := (kindOf_4 c k4.2).2.2.2
    rw [text_head c r m hm hc34]
    rcases one_cases 32 b t n h with ⟨rfl, _⟩ | ⟨_, hl', _⟩ | ⟨_, _, hd', _⟩ | ⟨rfl, _⟩ | ⟨_, _, _, _, hn, hn0⟩
    · exact absurd rfl h10
    · rw [hl] at hl'; cases hl'
    · rw [hdg] at hd'; cases hd'
    · exact absurd rfl h34
    · rw [text_head b t n (by omega) h34]
      -- a sign of one byte, or of two
      by_cases hn1 : n = 1
      · subst hn1
        simp only [List.drop_succ_cons, List.drop_zero] at hd
        subst hd
        have h2 : isTwo b c = false := by
          cases hx : isTwo b c with
          | false => rfl
          | true => simp [signN, hx] at hn
        simp only [Nat.sub_self, List.take_zero, List.take_succ_cons, List.cons.injEq, and_true, true_and]
        by_cases hc : c = 61
        · subst hc
          rw [if_pos rfl]
          simp [isTwo] at h2
          simp [h2]
        · rw [if_neg hc]
          by_cases hc2 : c = 62
          · subst hc2
            simp [isTwo] at h2
            simp [h2]
          · simp [hc2]
      · have hne : ∀ x : UInt8, (b :: t.take (n - 1) == [x]) = false := fun x => by
          simp only [beq_eq_false_iff_ne, ne_eq, List.cons.injEq, not_and]
          intro _ he
          have h3 : (t.take (n - 1)).length = 0 := by rw [he]; rfl
          have hl := (one_len' 32 _ _ h).2
          rw [List.length_take] at h3
          rw [List.length_cons] at hl
          omega
        simp [hne]
  · rw [if_neg k4]
end Tok
end Go.Proofs.YtbpaeglmanjbfaaDoor
