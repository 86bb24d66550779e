/- The plain laws of layer 33: what is encrypted is decrypted, and only that. -/
import Derived.Test.YtlgpmcpkddgpmaaSealMath
namespace Go.Proofs.Ytlgpmcpkddgpmaa
namespace Seal

theorem ver_app (l : List UInt8) : Crc.ver (Crc.app l) = (l, 0) := by
  unfold Crc.ver Crc.app
  rw [if_neg (by simp [Crc.four_length]), if_pos (by simp [Crc.four_length])]
  simp [Crc.four_length]
theorem app_ver (l v : List UInt8) (h : Crc.ver l = (v, 0)) : l = Crc.app v := by
  unfold Crc.ver at h
  split at h
  · simp at h
  · split at h
    · rename_i h1 h2
      simp only [Prod.mk.injEq, and_true] at h
      subst h
      unfold Crc.app
      rw [← h2, List.take_append_drop]
    · simp at h

theorem body_parts (k : List UInt8) (n : Int) (p : List UInt8) :
    (body k n p).length = 20 + p.length ∧ (body k n p).take 4 = [80, 83, 76, 49] ∧ ((body k n p).drop 4).take 8 = eight n.toNat ∧ ((body k n p).drop 12).take 8 = eight (tag (seed k n) p).toNat ∧ (body k n p).drop 20 = comb (seed k n) 0 p := by
  unfold body
  have h1 := eight_length n.toNat
  have h2 := eight_length (tag (seed k n) p).toNat
  generalize eight n.toNat = a at *
  generalize eight (tag (seed k n) p).toNat = b at *
  refine ⟨by simp [h1, h2, comb_length]; omega, by simp, ?_, ?_, ?_⟩
  · simp [h1]
  · simp [h1, h2]
  · simp [h1, h2, List.drop_append]

theorem form_app (k : List UInt8) (n : Int) (p : List UInt8) (hn : U64 n) (hp : p.length ≤ 1048576) :
    form (Crc.app (body k n p)) = (n, tag (seed k n) p, comb (seed k n) 0 p, (0 : Int)) := by
  obtain ⟨h1, h2, h3, h4, h5⟩ := body_parts k n p
  have ht := tag_u64 (seed k n) p
  have e1 : ((number ((body k n p).drop 4) : Nat) : Int) = n := by
    rw [number, h3, le_eight _ (by have := hn.hi; have := hn.lo; omega)]; have := hn.lo; omega
  have e2 : ((number ((body k n p).drop 12) : Nat) : Int) = tag (seed k n) p := by
    rw [number, h4, le_eight _ (by have := ht.hi; have := ht.lo; omega)]; have := ht.lo; omega
  rw [form, ver_app, if_neg (by simp), if_neg (by simp only [h1, h2]; simp), if_neg (by simp only [h1]; omega)]
  simp only [e1, e2, h5]
theorem dec_enc (k : List UInt8) (n : Int) (p : List UInt8) (hc : check k = 0) (hn : U64 n) (hp : p.length ≤ 1048576) : dec k (Crc.app (body k n p)) = (p, 0) := by
  rw [dec, if_neg (by simpa using hc), form_app k n p hn hp, if_neg (by simp)]
  simp only [comb_comb]
  rw [if_neg (by simp)]
theorem nonce_enc (k : List UInt8) (n : Int) (p : List UInt8) (hn : U64 n) (hp : p.length ≤ 1048576) : nonce (Crc.app (body k n p)) = (n, 0) := by
  rw [nonce, form_app k n p hn hp]
theorem enc_ok (k : List UInt8) (n : Int) (p : List UInt8) (hc : check k = 0) (hp : p.length ≤ 1048576) : enc k n p = (Crc.app (body k n p), 0) := by
  rw [enc, if_neg (by simpa using hc), if_neg (by omega)]
/-- What an opened form was. -/
theorem form_zero (t : List UInt8) (n m : Int) (h : List UInt8) (hf : form t = (n, m, h, (0 : Int))) :
    ∃ v, Crc.ver t = (v, 0) ∧ 20 ≤ v.length ∧ v.length ≤ 1048596 ∧ v.take 4 = [80, 83, 76, 49] ∧ n = (number (v.drop 4) : Nat) ∧ m = (number (v.drop 12) : Nat) ∧ h = v.drop 20 := by
  generalize hv : Crc.ver t = r at *
  obtain ⟨v, k⟩ := r
  rw [form, hv] at hf
  split at hf
  · rename_i hk
    simp only [Prod.mk.injEq] at hf
    exact absurd hf.2.2.2 hk
  · rename_i hk
    have hk0 : k = 0 := by simpa using hk
    subst hk0
    split at hf
    · simp at hf
    · rename_i hb
      split at hf
      · simp at hf
      · rename_i hl
        simp only [Prod.mk.injEq, and_true] at hf
        simp only [not_or, Nat.not_lt, ne_eq, Classical.not_not] at hb
        exact ⟨v, rfl, hb.1, by simpa using hl, hb.2, hf.1.symm, hf.2.1.symm, hf.2.2.symm⟩
theorem enc_dec (k t p : List UInt8) (h : dec k t = (p, 0)) : check k = 0 ∧ U64 (nonce t).1 ∧ (nonce t).2 = 0 ∧ p.length ≤ 1048576 ∧ enc k (nonce t).1 p = (t, 0) := by
  unfold dec at h
  split at h
  · rename_i hk; simp only [Prod.mk.injEq] at h; exact absurd h.2 hk
  · rename_i hk
    have hc : check k = 0 := by simpa using hk
    generalize hf : form t = r at *
    obtain ⟨n, m, hd, e⟩ := r
    split at h
    · rename_i he; simp only [Prod.mk.injEq] at h; exact absurd h.2 he
    · rename_i he
      have he0 : e = 0 := by simpa using he
      subst he0
      split at h
      · simp at h
      · rename_i htag
        simp only [ne_eq, Classical.not_not] at htag
        simp only [Prod.mk.injEq, and_true] at h
        obtain ⟨v, hv, h20, hmax, hmag, rfl, rfl, rfl⟩ := form_zero t n m hd hf
        have hpl : p.length ≤ 1048576 := by rw [← h, comb_length]; simp; omega
        have hno : nonce t = (((number (v.drop 4) : Nat) : Int), (0 : Int)) := by rw [nonce, hf]
        have hnl := number_lt (v.drop 4)
        refine ⟨hc, by rw [hno]; exact ⟨by simp only; omega, by simp only; omega⟩, by rw [hno], hpl, ?_⟩
        rw [hno, enc_ok k _ p hc hpl, app_ver t v hv]
        congr 2
        simp only
        rw [body, ← h, comb_comb, htag, Int.toNat_natCast, Int.toNat_natCast, eight_number _ (by simp; omega), eight_number _ (by simp; omega), ← hmag]
        have e1 : v = v.take 4 ++ ((v.drop 4).take 8 ++ ((v.drop 12).take 8 ++ v.drop 20)) := by
          rw [show v.drop 20 = (v.drop 12).drop 8 by simp, List.take_append_drop, show v.drop 12 = (v.drop 4).drop 8 by simp, List.take_append_drop, List.take_append_drop]
        simp only [List.append_assoc]
        exact e1.symm
theorem dec_err (k t : List UInt8) (h : (dec k t).2 ≠ 0) : (dec k t).1 = [] := by
  unfold dec at *
  split
  · rfl
  · split
    · rfl
    · split
      · rfl
      · rename_i h1 h2 h3; simp [h1, h2, h3] at h
theorem rekey_ok (a b t s : List UInt8) (h : rekey a b t = (s, 0)) : ∃ p, dec a t = (p, 0) ∧ dec b s = (p, 0) := by
  generalize hd : dec a t = r at *
  obtain ⟨p, e⟩ := r
  unfold rekey at h
  rw [hd] at h
  split at h
  · rename_i he; simp only [Prod.mk.injEq] at h; exact absurd h.2 he
  · rename_i he
    have he0 : e = 0 := by simpa using he
    subst he0
    obtain ⟨_, hn, _, hp, _⟩ := enc_dec a t p hd
    simp only at h
    have hc : check b = 0 := by
      unfold enc at h
      split at h
      · rename_i hk; simp only [Prod.mk.injEq] at h; exact absurd h.2 hk
      · rename_i hk; simpa using hk
    rw [enc_ok b _ p hc hp] at h
    simp only [Prod.mk.injEq, and_true] at h
    exact ⟨p, rfl, by rw [← h]; exact dec_enc b _ p hc hn hp⟩
theorem dec_wrong (o : List UInt8) (t : List UInt8) (n m : Int) (h : List UInt8) (hc : check o = 0) (hf : form t = (n, m, h, (0 : Int))) :
    (dec o t).2 = if tag (seed o n) (comb (seed o n) 0 h) = m then 0 else 26 := by
  rw [dec, if_neg (by simpa using hc), hf, if_neg (by simp)]
  simp only [ne_eq, ite_not]
  split <;> rfl
theorem damaged (k x : List UInt8) (hc : check k = 0) (h : Crc.ver x = ([], 20)) : dec k x = ([], 20) ∧ nonce x = (0, 20) := by
  have hf : form x = (0, 0, [], (20 : Int)) := by rw [form, h, if_pos (by simp)]
  exact ⟨by rw [dec, if_neg (by simpa using hc), hf, if_pos (by simp)], by rw [nonce, hf]⟩
end Seal
end Go.Proofs.Ytlgpmcpkddgpmaa
