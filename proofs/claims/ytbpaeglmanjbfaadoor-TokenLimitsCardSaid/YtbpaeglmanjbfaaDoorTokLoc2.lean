/- Reading a string looks at nothing behind its quotation mark. No program in sight. -/
import Derived.Test.YtbpaeglmanjbfaaDoorTokLoc1
namespace Go.Proofs.YtbpaeglmanjbfaaDoor
set_option linter.unusedSimpArgs false
set_option linter.unusedVariables false
namespace Tok
open Go.Lib
theorem srcW_34 (inn : List UInt8 → R) : ∀ (f : Nat) (l : List UInt8) (n : Nat), srcW inn f l = .ok n → l[n]? = some 34
  | 0, l, n, h => by simp [srcW] at h
  | f + 1, l, n, h => by
    have dr : ∀ m n', srcW inn f (l.drop m) = .ok n' → n = m + n' → l[n]? = some 34 := fun m n' h1 h2 => by
      have := srcW_34 inn f _ _ h1
      rw [List.getElem?_drop] at this
      rw [h2]; exact this
    rw [srcW] at h
    split at h
    · cases h
    · split at h
      · next h34 =>
        injection h with h; subst h
        cases l with
        | nil => simp at h34
        | cons b l => simpa using h34
      · split at h
        · obtain ⟨n', h1, h2⟩ := up_ok h; exact dr _ _ h1 h2
        · split at h
          · split at h
            · obtain ⟨n', h1, h2⟩ := up_ok h; exact dr _ _ h1 h2
            · next hno => exact absurd h (by intro h; exact hno _ h)
          · split at h
            · split at h
              · cases h
              · split at h
                · cases h
                · obtain ⟨n', h1, h2⟩ := up_ok h; exact dr _ _ h1 h2
            · split at h
              · cases h
              · obtain ⟨n', h1, h2⟩ := up_ok h; exact dr _ _ h1 h2
theorem drop_app (p r : List UInt8) (m : Nat) (h : m ≤ p.length) : (p ++ r).drop m = p.drop m ++ r := List.drop_append_of_le_length h
theorem take_app (p r : List UInt8) (m : Nat) (h : m ≤ p.length) : (p ++ r).take m = p.take m := List.take_append_of_le_length h
theorem charN_nil : charN [] = 0 := by simp [charN]
theorem charN_le (l : List UInt8) : charN l ≤ l.length := by
  unfold charN
  split
  · omega
  · next h => exact decodeL_le l (fun he => h (.inl he))
theorem srcW_local (inn : List UInt8 → R) (hl : ∀ (p r r' : List UInt8) (n : Nat), inn (p ++ r) = .ok n → n < p.length → inn (p ++ r') = .ok n) (hp : ∀ (l : List UInt8) (n : Nat), inn l = .ok n → 2 ≤ n) :
    ∀ (f : Nat) (p r r' : List UInt8) (n : Nat), srcW inn f (p ++ r) = .ok n → n < p.length → ∀ f', n < f' → srcW inn f' (p ++ r') = .ok n
  | 0, p, r, r', n, h, hn, f', hf => by simp [srcW] at h
  | f + 1, p, r, r', n, h, hn, f', hf => by
    obtain ⟨g, rfl⟩ : ∃ g, f' = g + 1 := ⟨f' - 1, by omega⟩
    have h34n := srcW_34 inn _ _ _ h
    rw [List.getElem?_append_left hn] at h34n
    have dr : ∀ m n', 1 ≤ m → n = m + n' → srcW inn f ((p ++ r).drop m) = .ok n' → (srcW inn g ((p ++ r').drop m)).up m = .ok n := fun m n' hm h2 h1 => by
      rw [drop_app _ _ _ (by omega)] at h1 ⊢
      rw [srcW_local inn hl hp f (p.drop m) r r' n' h1 (by rw [List.length_drop]; omega) g (by omega)]
      rw [h2]; rfl
    have ch : ∀ m k, m ≤ p.length → charN ((p ++ r).drop m) = k → k ≠ 0 → m + k ≤ p.length → charN ((p ++ r').drop m) = k := fun m k hm h1 h2 h3 => by
      rw [drop_app _ _ _ hm] at h1 ⊢
      exact char_local _ _ _ _ h1 h2 (by rw [List.length_drop]; omega)
    cases p with
    | nil => simp at hn
    | cons b p1 =>
      rw [srcW] at h ⊢
      rw [if_neg (by simp)] at h ⊢
      simp only [List.cons_append, List.head?_cons, Option.some.injEq] at h ⊢
      by_cases h34 : b = 34
      · rw [if_pos h34] at h ⊢; exact h
      rw [if_neg h34] at h ⊢
      have hn0 : n ≠ 0 := by
        intro h0; rw [h0] at h34n; simp at h34n; exact h34 h34n
      by_cases h3 : List.take 3 (b :: (p1 ++ r)) = [36, 36, 123]
      · rw [if_pos h3] at h
        obtain ⟨n', h1, h2⟩ := up_ok h
        have h3' : List.take 3 (b :: (p1 ++ r')) = [36, 36, 123] := by
          rw [← List.cons_append, take_app _ _ _ (by omega)]
          rw [← List.cons_append, take_app _ _ _ (by omega)] at h3
          exact h3
        rw [if_pos h3']
        exact dr 3 n' (by omega) h2 h1
      · rw [if_neg h3] at h
        have h3' : ¬ List.take 3 (b :: (p1 ++ r')) = [36, 36, 123] := by
          intro hh
          by_cases hl3 : 3 ≤ (b :: p1).length
          · rw [← List.cons_append, take_app _ _ _ hl3] at hh
            rw [← List.cons_append, take_app _ _ _ hl3] at h3
            exact h3 hh
          · match p1, n, hn, hn0, h34n, hl3, hh with
            | [], n, hn, hn0, _, _, _ => exact absurd hn (by simp; omega)
            | [c], n, hn, hn0, h34n, _, hh =>
              obtain rfl : n = 1 := by have : n < 2 := hn; omega
              simp at h34n hh
              rw [h34n] at hh
              exact absurd hh.2.1 (by decide)
            | c :: d :: p2, _, _, _, _, hl3, _ => simp at hl3
        rw [if_neg h3']
        by_cases h2 : List.take 2 (b :: (p1 ++ r)) = [36, 123]
        · rw [if_pos h2] at h
          cases hi : inn (b :: (p1 ++ r)) with
          | ok m =>
            rw [hi] at h
            obtain ⟨n', h1, hm⟩ := up_ok h
            have hm2 := hp _ _ hi
            have h2' : List.take 2 (b :: (p1 ++ r')) = [36, 123] := by
              rw [← List.cons_append, take_app _ _ _ (by omega)]
              rw [← List.cons_append, take_app _ _ _ (by omega)] at h2
              exact h2
            have hi' := hl (b :: p1) r r' m hi (by omega)
            rw [if_pos h2']
            rw [List.cons_append] at hi'
            rw [hi']
            exact dr m n' (by omega) hm h1
          | err e a => rw [hi] at h; cases h
          | trunc => rw [hi] at h; cases h
        · rw [if_neg h2] at h
          have h2' : ¬ List.take 2 (b :: (p1 ++ r')) = [36, 123] := by
            intro hh
            by_cases hl2 : 2 ≤ (b :: p1).length
            · rw [← List.cons_append, take_app _ _ _ hl2] at hh
              rw [← List.cons_append, take_app _ _ _ hl2] at h2
              exact h2 hh
            · match p1, hn, hl2 with
              | [], hn, _ => simp at hn; omega
              | c :: p2, _, hl2 => simp at hl2
          rw [if_neg h2']
          by_cases h92 : b = 92
          · rw [if_pos h92] at h ⊢
            split at h
            · cases h
            · next hne =>
              split at h
              · cases h
              · next hc0 =>
                obtain ⟨n', h1, hm⟩ := up_ok h
                have hce := ch 1 (charN (List.drop 1 (b :: (p1 ++ r)))) (by simp) rfl hc0 (by omega)
                simp only [List.cons_append] at hce
                rw [if_neg (by intro he; rw [he, charN_nil] at hce; exact hc0 hce.symm), hce, if_neg hc0]
                have := dr (1 + charN (List.drop 1 (b :: (p1 ++ r)))) n' (by omega) hm (by simpa using h1)
                simpa using this
          · rw [if_neg h92] at h ⊢
            split at h
            · cases h
            · next hc0 =>
              obtain ⟨n', h1, hm⟩ := up_ok h
              have hce := ch 0 (charN (b :: (p1 ++ r))) (by simp) rfl hc0 (by omega)
              simp only [List.drop_zero, List.cons_append] at hce
              rw [hce, if_neg hc0]
              exact dr (charN (b :: (p1 ++ r))) n' (by omega) hm h1
end Tok
end Go.Proofs.YtbpaeglmanjbfaaDoor
