/- Plain laws of one step of Unquote. -/
import Derived.Test.YtbpaeglmanjbfaaDoorStrUnq
import Derived.Lib.MapLaws
namespace Go.Proofs.YtbpaeglmanjbfaaDoor
namespace Str
open Go.Lib

theorem dec_cases (l : List UInt8) : ((l.getD 0 0).toNat < 128 ∧ decodeL l = ((l.getD 0 0).toNat, 1)) ∨ (128 ≤ (l.getD 0 0).toNat ∧ 128 ≤ (decodeL l).1) := by
  rw [decodeL_N]
  generalize (l.getD 0 0).toNat = b0
  generalize (l.getD 1 0).toNat = b1
  generalize (l.getD 2 0).toNat = b2
  generalize (l.getD 3 0).toNat = b3
  rcases decodeN_shape l.length b0 b1 b2 b3 with ⟨c, e⟩ | ⟨c1, c2, c3, cv, e⟩ | ⟨c1, c2, c3, c4, cv, cs, e⟩ | ⟨c1, c2, c3, c4, c5, cv, cw, e⟩ | e
  · exact .inl ⟨c, e⟩
  · right; rw [e]; simp only; omega
  · right; rw [e]; simp only; omega
  · right; rw [e]; simp only; omega
  · by_cases hb : b0 < 128
    · left
      refine ⟨hb, ?_⟩
      unfold decodeN; rw [if_pos hb]
    · right; rw [e]; simp only; omega
theorem dec_lt (l : List UInt8) : (decodeL l).1 ≤ 1114111 := by
  have hb : (l.getD 0 0).toNat < 256 := UInt8.toNat_lt _
  rw [decodeL_N]
  have := decodeN_valid l.length (l.getD 0 0).toNat (l.getD 1 0).toNat (l.getD 2 0).toNat (l.getD 3 0).toNat hb
  omega
theorem point_lt (l : List UInt8) : (point l).1 < 16777216 := by
  have h1 := hexN_le 6 l
  have h2 := hexC_lt (hexN 6 l) l h1.2
  have h3 : 16 ^ hexN 6 l ≤ 16 ^ 6 := Nat.pow_le_pow_right (by decide) h1.1
  unfold point
  repeat' split
  all_goals simp only
  all_goals omega
theorem point_len (l : List UInt8) : (point l).2.1 ≤ l.length := by
  have h1 := hexN_le 6 l
  unfold point
  split
  next hh => simp only; omega
  next hh =>
    split
    · simp
    · simp only; omega
theorem escp_lt (l : List UInt8) : (escp l).1 < 16777216 := by
  unfold escp
  split
  · simp
  · next b t =>
    have := b.toNat_lt
    repeat' split
    all_goals first
      | exact point_lt _
      | (simp only; omega)
theorem escp_len (l : List UInt8) (h : (escp l).2.2 = 0) : 1 ≤ (escp l).2.1 ∧ (escp l).2.1 ≤ l.length := by
  unfold escp at h ⊢
  split
  · simp at h
  · next b t =>
    simp only at h
    split
    · simp
    split
    · simp
    split
    · simp
    split
    · simp
    next h1 h2 h3 h4 =>
    rw [if_neg h1, if_neg h2, if_neg h3, if_neg h4] at h
    split
    next h5 =>
      rw [if_pos h5] at h
      split
      · simp at h
      · next c u =>
        simp only at h
        split
        next h6 =>
          rw [if_pos h6] at h
          have := point_len u
          simp only [List.length_cons]; omega
        next h6 => rw [if_neg h6] at h; simp at h
    next h5 => rw [if_neg h5] at h; simp at h
theorem one_esc (l : List UInt8) (h : l.getD 0 0 = 92) (c n : Nat) (e : Int) (he : escp (l.drop 1) = (c, n, e)) : one l = if e ≠ 0 then ([], 0, e) else (enc c, n + 1, 0) := by
  unfold one; rw [if_pos h, he]
theorem one_bad (l : List UInt8) (c n : Nat) (hd : decodeL l = (c, n)) (h1 : c ≠ 92) (h2 : (c = 65533 ∧ n = 1) ∨ c < 32 ∨ c = 127) : one l = ([], 0, 2) := by
  have hc := dec_cases l
  rw [hd] at hc
  have h0 : l.getD 0 0 ≠ 92 := by
    intro h
    rw [h] at hc
    rcases hc with ⟨_, h4⟩ | ⟨h4, _⟩
    · exact h1 (congrArg Prod.fst h4)
    · exact absurd h4 (by decide)
  unfold one
  rw [if_neg h0, if_pos ?_]
  rw [hd]
  rcases h2 with h2 | h2 | h2
  · exact .inl h2
  · rcases hc with ⟨_, h4⟩ | ⟨_, h4⟩
    · right; left
      rw [UInt8.lt_iff_toNat_lt]
      have := congrArg Prod.fst h4; simp only at this; show _ < 32; omega
    · simp only at h4; omega
  · rcases hc with ⟨_, h4⟩ | ⟨_, h4⟩
    · right; right
      rw [← UInt8.toNat_inj]
      have := congrArg Prod.fst h4; simp only at this; show _ = 127; omega
    · simp only at h4; omega
theorem one_ok (l : List UInt8) (hl : l ≠ []) (c n : Nat) (hd : decodeL l = (c, n)) (h1 : c ≠ 92) (h2 : ¬ ((c = 65533 ∧ n = 1) ∨ c < 32 ∨ c = 127)) : one l = (enc c, n, 0) := by
  have hc := dec_cases l
  have hen := encode_decode l hl (by rw [hd]; exact fun h => h2 (.inl h))
  rw [hd] at hc hen
  have hv : ∀ v : UInt8, v.toNat < 128 → c ≠ v.toNat → l.getD 0 0 ≠ v := by
    intro v hv hne h
    rw [h] at hc
    rcases hc with ⟨_, h4⟩ | ⟨h4, _⟩
    · exact hne (congrArg Prod.fst h4)
    · omega
  unfold one
  rw [if_neg (hv 92 (by decide) h1), if_neg ?_, hd]
  · show (l.take n, n, (0 : Int)) = (enc c, n, 0)
    rw [enc, ← hen]
  · rintro (h | h | h)
    · rw [hd] at h; exact h2 (.inl h)
    · rw [UInt8.lt_iff_toNat_lt] at h
      have h' : (l.getD 0 0).toNat < 32 := h
      rcases hc with ⟨_, h4⟩ | ⟨h4, _⟩
      · have := congrArg Prod.fst h4; simp only at this; exact h2 (.inr (.inl (by omega)))
      · omega
    · exact hv 127 (by decide) (fun hh => h2 (.inr (.inr hh))) h
theorem unq_nil (f : Nat) (acc : List UInt8) (i : Nat) : unq (f + 1) [] acc i = ([], 0, 40) := by rw [unq, if_pos rfl]
theorem unq_quote (f : Nat) (l acc : List UInt8) (i : Nat) (h1 : l ≠ []) (h : l.getD 0 0 = 34) : unq (f + 1) l acc i = if 4096 < acc.length then ([], 0, 3) else (acc, i + 1, 0) := by
  rw [unq, if_neg h1, if_pos h]
end Str
end Go.Proofs.YtbpaeglmanjbfaaDoor
