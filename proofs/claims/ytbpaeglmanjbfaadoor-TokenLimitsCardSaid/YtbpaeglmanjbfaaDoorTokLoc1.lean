/- Reading looks at no more than one byte behind what it reads. No program in sight. -/
import Derived.Test.YtbpaeglmanjbfaaDoorTokProg11
import Derived.Lib.TrimUEq
namespace Go.Proofs.YtbpaeglmanjbfaaDoor
set_option linter.unusedSimpArgs false
set_option linter.unusedVariables false
namespace Tok
open Go.Lib
theorem dec_local (n n' b0 b1 b2 b3 c1 c2 c3 c m : Nat) (h : decodeN n b0 b1 b2 b3 = (c, m)) (he : ¬ (c = 65533 ∧ m = 1)) (hn : m ≤ n') (h1 : 1 < m → b1 = c1) (h2 : 2 < m → b2 = c2) (h3 : 3 < m → b3 = c3) :
    decodeN n' b0 c1 c2 c3 = (c, m) := by
  unfold decodeN at h
  by_cases a0 : b0 < 128
  · rw [if_pos a0] at h
    unfold decodeN
    rw [if_pos a0]; exact h
  · rw [if_neg a0] at h
    by_cases a1 : b0 / 32 = 6 ∧ (1 < n ∧ b1 / 64 = 2)
    · rw [if_pos a1] at h
      split at h
      · next hv =>
        injection h with hc hm
        subst hm
        obtain rfl := h1 (by omega)
        unfold decodeN
        rw [if_neg a0, if_pos ⟨a1.1, by omega, a1.2.2⟩, if_pos hv, hc]
      · injection h with hc hm; exact absurd ⟨hc.symm, hm.symm⟩ he
    · rw [if_neg a1] at h
      by_cases a2 : b0 / 16 = 14 ∧ (1 < n ∧ b1 / 64 = 2) ∧ (2 < n ∧ b2 / 64 = 2)
      · rw [if_pos a2] at h
        split at h
        · next hv =>
          injection h with hc hm
          subst hm
          obtain rfl := h1 (by omega)
          obtain rfl := h2 (by omega)
          unfold decodeN
          rw [if_neg a0, if_neg (by omega), if_pos ⟨a2.1, ⟨by omega, a2.2.1.2⟩, by omega, a2.2.2.2⟩, if_pos hv, hc]
        · injection h with hc hm; exact absurd ⟨hc.symm, hm.symm⟩ he
      · rw [if_neg a2] at h
        by_cases a3 : b0 / 8 = 30 ∧ (1 < n ∧ b1 / 64 = 2) ∧ (2 < n ∧ b2 / 64 = 2) ∧ (3 < n ∧ b3 / 64 = 2)
        · rw [if_pos a3] at h
          split at h
          · next hv =>
            injection h with hc hm
            subst hm
            obtain rfl := h1 (by omega)
            obtain rfl := h2 (by omega)
            obtain rfl := h3 (by omega)
            unfold decodeN
            rw [if_neg a0, if_neg (by omega), if_neg (by omega), if_pos ⟨a3.1, ⟨by omega, a3.2.1.2⟩, ⟨by omega, a3.2.2.1.2⟩, by omega, a3.2.2.2.2⟩, if_pos hv, hc]
          · injection h with hc hm; exact absurd ⟨hc.symm, hm.symm⟩ he
        · rw [if_neg a3] at h
          injection h with hc hm; exact absurd ⟨hc.symm, hm.symm⟩ he
theorem getD_app (p r : List UInt8) (i : Nat) (h : i < p.length) : (p ++ r).getD i 0 = p.getD i 0 := by
  simp [List.getD, List.getElem?_append_left h]
theorem char_local (p r r' : List UInt8) (m : Nat) (h : charN (p ++ r) = m) (h0 : m ≠ 0) (hm : m ≤ p.length) : charN (p ++ r') = m := by
  unfold charN at h ⊢
  split at h
  · exact absurd h.symm h0
  · next hc =>
    have hc' : ¬ (p ++ r = []) ∧ ¬ (decodeL (p ++ r)).1 < 32 ∧ ¬ (decodeL (p ++ r)).1 = 127 ∧ ¬ ((decodeL (p ++ r)).1 = 65533 ∧ (decodeL (p ++ r)).2 = 1) := by
      refine ⟨fun h => hc (.inl h), fun h => hc (.inr (.inl h)), fun h => hc (.inr (.inr (.inl h))), fun h => hc (.inr (.inr (.inr h)))⟩
    have hp : p ≠ [] := by intro hp; rw [hp] at hm; simp at hm; exact h0 hm
    have hl : 0 < p.length := by cases p <;> simp_all
    have e : decodeL (p ++ r') = decodeL (p ++ r) := by
      obtain ⟨⟨c, m'⟩, hd⟩ : ∃ d, decodeL (p ++ r) = d := ⟨_, rfl⟩
      rw [hd] at h hc'
      have hm' : m' = m := h
      subst hm'
      rw [hd, decodeL_N]
      rw [decodeL_N] at hd
      rw [getD_app p r' 0 hl]
      rw [getD_app p r 0 hl] at hd
      refine dec_local _ _ _ _ _ _ _ _ _ _ _ hd hc'.2.2.2 (by rw [List.length_append]; omega) (fun hh => ?_) (fun hh => ?_) (fun hh => ?_)
      · rw [getD_app p r 1 (by omega), getD_app p r' 1 (by omega)]
      · rw [getD_app p r 2 (by omega), getD_app p r' 2 (by omega)]
      · rw [getD_app p r 3 (by omega), getD_app p r' 3 (by omega)]
    rw [e, if_neg ?_]
    · exact h
    · rintro (h1 | h1 | h1 | h1)
      · exact hp (List.append_eq_nil_iff.1 h1).1
      · exact hc'.2.1 h1
      · exact hc'.2.2.1 h1
      · exact hc'.2.2.2 h1
theorem span_local (q : UInt8 → Bool) : ∀ (p r r' : List UInt8), spanN q (p ++ r) < p.length → spanN q (p ++ r') = spanN q (p ++ r)
  | [], r, r', h => by simp at h
  | b :: p, r, r', h => by
    simp only [List.cons_append, spanN] at h ⊢
    split
    · next hb =>
      rw [if_pos hb] at h
      rw [span_local q p r r' (by simp at h; omega)]
    · rfl
end Tok
end Go.Proofs.YtbpaeglmanjbfaaDoor
