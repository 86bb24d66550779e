/- Reading a token looks at no more than one byte behind it. No program in sight. -/
import Derived.Test.YtbpaeglmanjbfaaDoorTokLoc2
namespace Go.Proofs.YtbpaeglmanjbfaaDoor
set_option linter.unusedSimpArgs false
set_option linter.unusedVariables false
namespace Tok
open Go.Lib
theorem oneW_local (src : List UInt8 → R) (hs : ∀ (p r r' : List UInt8) (n : Nat), src (p ++ r) = .ok n → n < p.length → src (p ++ r') = .ok n)
    (p r r' : List UInt8) (n : Nat) (h : oneW src (p ++ r) = .ok n) (hn : n < p.length) : oneW src (p ++ r') = .ok n := by
  cases p with
  | nil => simp at hn
  | cons b p1 =>
    simp only [List.cons_append, oneW] at h ⊢
    by_cases h10 : b = 10
    · rw [if_pos h10] at h ⊢; exact h
    rw [if_neg h10] at h ⊢
    by_cases hl : isLetter b = true
    · rw [if_pos hl] at h ⊢
      split at h
      · cases h
      · next h64 =>
        injection h with h
        have := span_local (fun c => isLetter c || isDigit c) (b :: p1) r r' (by rw [List.cons_append, h]; exact hn)
        simp only [List.cons_append] at this
        rw [this, if_neg h64, h]
    rw [if_neg hl] at h ⊢
    by_cases hd : isDigit b = true
    · rw [if_pos hd] at h ⊢
      injection h with h
      have := span_local isDigit (b :: p1) r r' (by rw [List.cons_append, h]; exact hn)
      simp only [List.cons_append] at this
      rw [this, h]
    rw [if_neg hd] at h ⊢
    by_cases h34 : b = 34
    · rw [if_pos h34] at h ⊢
      cases hr : src (p1 ++ r) with
      | ok m =>
        rw [hr] at h
        injection h with h
        rw [hs p1 r r' m hr (by simp at hn; omega)]
        simp [h]
      | err e a => rw [hr] at h; cases h
      | trunc => rw [hr] at h; cases h
    rw [if_neg h34] at h ⊢
    split at h
    · cases h
    · next h0 =>
      injection h with h
      match p1, hn, h0, h with
      | [], hn, h0, h => simp at hn; omega
      | c :: p2, hn, h0, h =>
        have e : signN (b :: (c :: p2 ++ r')) = signN (b :: (c :: p2 ++ r)) := rfl
        rw [e, if_neg h0, h]
theorem oneW_pos (src : List UInt8 → R) (l : List UInt8) (n : Nat) (h : oneW src l = .ok n) : 1 ≤ n := by
  cases l with
  | nil => simp [oneW] at h
  | cons b l =>
    simp only [oneW] at h
    split at h
    · injection h with h; omega
    · split at h
      · next hl =>
        split at h
        · cases h
        · injection h with h; rw [← h]; simp [spanN, hl]
      · split at h
        · next hd => injection h with h; rw [← h]; simp [spanN, hd]
        · split at h
          · split at h
            · injection h with h; omega
            · next hno => exact absurd (up_ok h) (by rintro ⟨n', h1, _⟩; exact hno _ h1)
          · split at h
            · cases h
            · injection h with h; omega
theorem innW_local (one : List UInt8 → R) (ho : ∀ (p r r' : List UInt8) (n : Nat), one (p ++ r) = .ok n → n < p.length → one (p ++ r') = .ok n) (hp : ∀ (l : List UInt8) (n : Nat), one l = .ok n → 1 ≤ n) :
    ∀ (f o : Nat) (p r r' : List UInt8) (n : Nat), innW one f o (p ++ r) = .ok n → n < p.length → ∀ f', n ≤ f' → innW one f' o (p ++ r') = .ok n
  | 0, o, p, r, r', n, h, hn, f', hf => by simp [innW] at h
  | f + 1, o, p, r, r', n, h, hn, f', hf => by
    rw [innW] at h
    split at h
    · cases h
    · cases hr : one (List.drop (blanksN (p ++ r)) (p ++ r)) with
      | ok m =>
        rw [hr] at h
        have hm := hp _ _ hr
        have hb : blanksN (p ++ r) + m ≤ n := by
          simp only at h
          split at h
          · split at h
            · injection h with h; omega
            · obtain ⟨n', _, h2⟩ := up_ok h; omega
          · obtain ⟨n', _, h2⟩ := up_ok h; omega
        obtain ⟨g, rfl⟩ : ∃ g, f' = g + 1 := ⟨f' - 1, by omega⟩
        have e1 : blanksN (p ++ r') = blanksN (p ++ r) := span_local isBlank p r r' (by unfold blanksN at hb; omega)
        rw [innW, e1]
        generalize blanksN (p ++ r) = k at *
        have hd1 := drop_app p r k (by omega)
        have hd2 := drop_app p r' k (by omega)
        have hne : p.drop k ≠ [] := by intro h; have := congrArg List.length h; simp at this; omega
        rw [hd1] at h hr
        have hr' := ho _ _ r' _ hr (by rw [List.length_drop]; omega)
        rw [hd2, if_neg (by intro h; exact hne (List.append_eq_nil_iff.1 h).1), hr']
        have hh : (p.drop k ++ r').head? = (p.drop k ++ r).head? := by
          cases hpk : p.drop k with
          | nil => exact absurd hpk hne
          | cons b q => rfl
        rw [hh]
        simp only at h ⊢
        have dr : ∀ o' n', n = k + m + n' → innW one f o' (List.drop (k + m) (p ++ r)) = .ok n' → (innW one g o' (List.drop (k + m) (p ++ r'))).up (k + m) = .ok n := fun o' n' h2 h1 => by
          rw [drop_app _ _ _ (by omega)] at h1 ⊢
          rw [innW_local one ho hp f o' (p.drop (k + m)) r r' n' h1 (by rw [List.length_drop]; omega) g (by omega)]
          rw [h2]; rfl
        split at h
        · next h125 =>
          rw [if_pos h125]
          split at h
          · next h0 => rw [if_pos h0]; exact h
          · next h0 =>
            rw [if_neg h0]
            obtain ⟨n', h1, h2⟩ := up_ok h
            exact dr _ n' h2 h1
        · next h125 =>
          rw [if_neg h125]
          obtain ⟨n', h1, h2⟩ := up_ok h
          exact dr _ n' h2 h1
      | err e a => rw [hr] at h; simp [R.up] at h
      | trunc => rw [hr] at h; simp [R.up] at h
theorem innE_pos (D : Nat) (l : List UInt8) (n : Nat) (h : innE D l = .ok n) : 2 ≤ n := by
  cases D with
  | zero => simp [innE] at h
  | succ D => obtain ⟨n', _, h2⟩ := up_ok h; omega
/-- A string's reading looks at nothing behind it. -/
theorem src_local : ∀ (D : Nat) (p r r' : List UInt8) (n : Nat), src D (p ++ r) = .ok n → n < p.length → src D (p ++ r') = .ok n
  | 0, p, r, r', n, h, hn => by
    rw [src_innE] at h ⊢
    exact srcW_local (innE 0) (fun _ _ _ _ h => by simp [innE] at h) (innE_pos 0) _ _ _ _ _ h hn _ (by rw [List.length_append]; omega)
  | D + 1, p, r, r', n, h, hn => by
    rw [src_innE] at h ⊢
    refine srcW_local (innE (D + 1)) (fun p r r' n h hn => ?_) (innE_pos (D + 1)) _ _ _ _ _ h hn _ (by rw [List.length_append]; omega)
    obtain ⟨n', h1, h2⟩ := up_ok h
    have hl2 : 2 ≤ p.length := by omega
    rw [drop_app _ _ _ hl2] at h1
    show ((innW (oneW (src D)) ((p ++ r').length + 1) 0 ((p ++ r').drop 2)).up 2) = .ok n
    rw [drop_app _ _ _ hl2, innW_local (oneW (src D)) (oneW_local (src D) (src_local D)) (oneW_pos (src D)) _ _ _ r r' n' h1 (by rw [List.length_drop]; omega) _ (by rw [List.length_append]; omega), h2]
    rfl
/-- A token's reading looks at one byte behind it. -/
theorem one_local (D : Nat) (p r r' : List UInt8) (n : Nat) (h : one D (p ++ r) = .ok n) (hn : n < p.length) : one D (p ++ r') = .ok n := oneW_local (src D) (src_local D) p r r' n h hn
end Tok
end Go.Proofs.YtbpaeglmanjbfaaDoor
