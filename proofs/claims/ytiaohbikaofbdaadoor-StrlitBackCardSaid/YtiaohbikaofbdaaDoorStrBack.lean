/- StrlitBack: the plain law: Unquote restores what Quote has written. -/
import Derived.Test.YtiaohbikaofbdaaDoorStrJoin
namespace Go.Proofs.YtiaohbikaofbdaaDoor
namespace Str
open Go.Lib
theorem getD_take (l : List UInt8) (n i : Nat) (h : i < n) : (l.take n).getD i 0 = l.getD i 0 := by
  simp [List.getD, h]
set_option maxRecDepth 100000 in
/-- A good code point's bytes alone decode to it. -/
theorem dec_good (l : List UInt8) (h : l ≠ []) (hg : ¬ Bad (decodeL l)) : decodeL (l.take (decodeL l).2) = decodeL l := by
  have h0 : 0 < l.length := List.length_pos_iff.2 h
  have ht := List.length_take (i := (decodeL l).2) (l := l)
  rw [Nat.min_eq_left (decodeL_le l h)] at ht
  rw [decodeL_N (l.take _), ht]
  rw [decodeL_N] at hg ⊢
  rcases decodeN_shape l.length (l.getD 0 0).toNat (l.getD 1 0).toNat (l.getD 2 0).toNat (l.getD 3 0).toNat with ⟨c, e⟩ | ⟨c1, c2, c3, cv, e⟩ | ⟨c1, c2, c3, c4, cv, cs, e⟩ | ⟨c1, c2, c3, c4, c5, cv, cw, e⟩ | e
  · rw [e]; simp only; rw [getD_take l 1 0 (by omega)]
    unfold decodeN; rw [if_pos c]
  · rw [e]; simp only; rw [getD_take l 2 0 (by omega), getD_take l 2 1 (by omega)]
    generalize (l.getD 0 0).toNat = b0 at *
    generalize (l.getD 1 0).toNat = b1 at *
    unfold decodeN
    repeat' split
    all_goals first
      | rfl
      | (exfalso; omega)
  · rw [e]; simp only; rw [getD_take l 3 0 (by omega), getD_take l 3 1 (by omega), getD_take l 3 2 (by omega)]
    generalize (l.getD 0 0).toNat = b0 at *
    generalize (l.getD 1 0).toNat = b1 at *
    generalize (l.getD 2 0).toNat = b2 at *
    unfold decodeN
    repeat' split
    all_goals first
      | rfl
      | (exfalso; omega)
  · rw [e]; simp only; rw [getD_take l 4 0 (by omega), getD_take l 4 1 (by omega), getD_take l 4 2 (by omega), getD_take l 4 3 (by omega)]
    generalize (l.getD 0 0).toNat = b0 at *
    generalize (l.getD 1 0).toNat = b1 at *
    generalize (l.getD 2 0).toNat = b2 at *
    generalize (l.getD 3 0).toNat = b3 at *
    unfold decodeN
    repeat' split
    all_goals first
      | rfl
      | (exfalso; omega)
  · exact absurd (by rw [e]; exact ⟨rfl, rfl⟩) hg
theorem take_ne (l : List UInt8) (h : l ≠ []) : l.take (decodeL l).2 ≠ [] := by
  have h1 := dec_pos l h
  have h2 := List.length_pos_iff.2 h
  intro he
  have := congrArg List.length he
  simp at this
  rcases this with h3 | h3
  · omega
  · exact h h3
theorem dec_front (l r : List UInt8) (h : l ≠ []) (hg : ¬ Bad (decodeL l)) : decodeL (l.take (decodeL l).2 ++ r) = decodeL l := by
  have e := dec_good l h hg
  rw [dec_append _ r (take_ne l h) (by rw [e]; exact hg), e]
theorem enc_high (c : Nat) (h : 128 ≤ c) (x : UInt8) (hx : x ∈ enc c) : 128 ≤ x.toNat := by
  unfold enc encodeRune at hx
  obtain ⟨z, hz, rfl⟩ := List.mem_map.1 hx
  have hb := encodeRuneZ_byte (c : Int) z hz
  have h1 : (z.toNat.toUInt8).toNat = z.toNat := by
    show z.toNat % 256 = z.toNat
    omega
  rw [h1]
  unfold encodeRuneZ at hz
  rw [if_neg (by omega)] at hz
  split at hz
  · simp at hz; omega
  · split at hz
    · simp at hz; omega
    · split at hz
      · simp at hz; omega
      · simp at hz; omega
theorem esc_high (x : UInt8) (h : 128 ≤ x.toNat) : esc x = [x] := by
  have hv : ∀ v : UInt8, v.toNat < 128 → x ≠ v := by intro v hv he; rw [he] at h; omega
  unfold esc
  rw [if_neg (hv 10 (by decide)), if_neg (hv 13 (by decide)), if_neg (hv 9 (by decide)), if_neg (hv 34 (by decide)), if_neg (hv 92 (by decide)), if_neg ?_]
  rintro (h2 | h2)
  · rw [UInt8.lt_iff_toNat_lt] at h2
    have h3 : x.toNat < 32 := h2
    omega
  · exact hv 127 (by decide) h2
theorem flatMap_high : ∀ l : List UInt8, (∀ x ∈ l, 128 ≤ x.toNat) → l.flatMap esc = l
  | [], _ => rfl
  | x :: l, h => by
    rw [List.flatMap_cons, esc_high x (h x (by simp)), flatMap_high l (fun y hy => h y (by simp [hy]))]; rfl
theorem hd_hex : ∀ d : Fin 16, hexv (hd d.val) = (d.val : Int) ∧ isHex (hd d.val) = true ∧ (0 < d.val → hd d.val ≠ 48) := by decide
theorem point_hex (c : Nat) (hc : c < 128) (r : List UInt8) : point (hexL c ++ 125 :: r) = (c, (hexL c).length + 1, 0) := by
  have h125 : isHex 125 = false := by decide
  unfold hexL
  by_cases h : c < 16
  · obtain ⟨h1, h2, h3⟩ := hd_hex ⟨c, h⟩
    simp only at h1 h2 h3
    rw [if_pos h]
    have hn : hexN 6 ([hd c] ++ 125 :: r) = 1 := by simp [hexN, h2, h125]
    have hv : hexC 1 ([hd c] ++ 125 :: r) = c := by simp [hexC, h1]
    unfold point
    rw [hn, hv, if_neg (by simp), if_neg ?_]
    · rfl
    · rintro (hh | hh | hh | hh)
      · exact hh rfl
      · omega
      · omega
      · unfold Utf8.valid at hh; simp at hh; omega
  · obtain ⟨h1, h2, h3⟩ := hd_hex ⟨c / 16, by omega⟩
    obtain ⟨g1, g2, _⟩ := hd_hex ⟨c % 16, by omega⟩
    simp only at h1 h2 h3 g1 g2
    rw [if_neg h]
    have hn : hexN 6 ([hd (c / 16), hd (c % 16)] ++ 125 :: r) = 2 := by simp [hexN, h2, g2, h125]
    have hv : hexC 2 ([hd (c / 16), hd (c % 16)] ++ 125 :: r) = c := by simp [hexC, h1, g1]; omega
    unfold point
    rw [hn, hv, if_neg (by simp), if_neg ?_]
    · rfl
    · rintro (hh | hh | hh | hh)
      · exact hh rfl
      · omega
      · exact h3 (by omega) hh.2
      · unfold Utf8.valid at hh; simp at hh; omega
theorem enc_small (c : Nat) (h : c < 128) : enc c = [UInt8.ofNat c] := by
  unfold enc encodeRune
  rw [encodeRuneZ_one (by omega) (by omega)]
  simp
theorem one_ascii (x : UInt8) (hx : x.toNat < 128) (r : List UInt8) : one (esc x ++ r) = ([x], (esc x).length, 0) := by
  have hex : enc x.toNat = [x] := by rw [enc_small _ hx]; simp
  unfold esc
  split
  next h => subst h; rfl
  split
  next h => subst h; rfl
  split
  next h => subst h; rfl
  split
  next h => subst h; rfl
  split
  next h => subst h; rfl
  next h10 h13 h9 h34 h92 =>
  split
  next h =>
    have hp := point_hex x.toNat hx r
    have he : escp (117 :: 123 :: (hexL x.toNat ++ 125 :: r)) = (x.toNat, (hexL x.toNat).length + 3, 0) := by
      show ((point (hexL x.toNat ++ 125 :: r)).1, (point (hexL x.toNat ++ 125 :: r)).2.1 + 2, (point (hexL x.toNat ++ 125 :: r)).2.2) = _
      rw [hp]
    have h1 := one_esc (92 :: 117 :: 123 :: (hexL x.toNat ++ 125 :: r)) rfl x.toNat _ 0 he
    rw [if_neg (by simp), hex] at h1
    have e : [92, 117, 123] ++ hexL x.toNat ++ [125] ++ r = 92 :: 117 :: 123 :: (hexL x.toNat ++ 125 :: r) := by simp
    rw [e, h1]
    simp
  next h =>
    have hd : decodeL (x :: r) = (x.toNat, 1) := by
      rcases dec_cases (x :: r) with ⟨_, h2⟩ | ⟨h2, _⟩
      · exact h2
      · exact absurd h2 (by show ¬ 128 ≤ x.toNat; omega)
    have hv : ∀ v : UInt8, x ≠ v → x.toNat ≠ v.toNat := fun v hne hh => hne (UInt8.toNat_inj.1 hh)
    have h1 := one_ok (x :: r) (by simp) x.toNat 1 hd (hv 92 h92) (by
      rintro (h2 | h2 | h2)
      · omega
      · exact h (.inl (by rw [UInt8.lt_iff_toNat_lt]; exact h2))
      · exact hv 127 (fun hh => h (.inr hh)) h2)
    rw [hex] at h1
    exact h1
theorem one_high (l r : List UInt8) (h : l ≠ []) (hg : ¬ Bad (decodeL l)) (hh : 128 ≤ (decodeL l).1) : one (l.take (decodeL l).2 ++ r) = (l.take (decodeL l).2, (decodeL l).2, 0) := by
  have hd := dec_front l r h hg
  have hen := encode_decode l h hg
  have ho := one_ok (l.take (decodeL l).2 ++ r) (by simp [take_ne l h]) (decodeL l).1 (decodeL l).2 hd (by omega) (by
    rintro (h2 | h2 | h2)
    · exact hg h2
    · omega
    · omega)
  rw [ho, ← hen, enc]
theorem head_esc (x : UInt8) (r : List UInt8) : (esc x ++ r).getD 0 0 ≠ 34 := by
  unfold esc
  repeat' split
  all_goals first
    | (show (92 : UInt8) ≠ 34; decide)
    | (show x ≠ 34; assumption)
theorem unq_quoted : ∀ (n f : Nat) (l m acc : List UInt8) (i : Nat), l.length ≤ n → validD l = true → (l.flatMap esc).length < f → acc.length + l.length ≤ 4096 →
    unq f (l.flatMap esc ++ 34 :: m) acc i = (acc ++ l, i + (l.flatMap esc).length + 1, 0)
  | n, 0, _, _, _, _, _, _, h, _ => by simp at h
  | n, f + 1, [], m, acc, i, _, _, _, ha => by
    rw [show ([] : List UInt8).flatMap esc ++ 34 :: m = 34 :: m from rfl, unq_quote _ _ _ _ (by simp) rfl, if_neg (by simp at ha; omega)]
    simp
  | 0, _ + 1, _ :: _, _, _, _, hn, _, _, _ => by simp at hn
  | n + 1, f + 1, x :: l, m, acc, i, hn, hv, hf, ha => by
    have hne : x :: l ≠ [] := by simp
    have hpos := dec_pos (x :: l) hne
    have hle := decodeL_le (x :: l) hne
    rw [valid_step _ hne] at hv
    by_cases hb : Bad (decodeL (x :: l))
    · rw [if_pos hb] at hv; simp at hv
    rw [if_neg hb] at hv
    have hx0 : ((x :: l).getD 0 0) = x := rfl
    have hcs := dec_cases (x :: l)
    rw [hx0] at hcs
    have hel := esc_length x
    rw [List.flatMap_cons, List.length_append] at hf
    rw [List.flatMap_cons, List.append_assoc]
    have hne2 : esc x ++ (l.flatMap esc ++ 34 :: m) ≠ [] := by
      intro h; have := congrArg List.length h; simp at this
    rcases hcs with ⟨h1, h2⟩ | ⟨h1, h2⟩
    · rw [h2] at hv
      simp only [List.drop_succ_cons, List.drop_zero] at hv
      rw [unq_step _ _ _ _ _ _ hne2 (head_esc x _) (one_ascii x h1 _), List.drop_left,
        unq_quoted n f l m (acc ++ [x]) _ (by simpa using hn) hv (by omega) (by simp at ha ⊢; omega)]
      simp; omega
    · obtain ⟨k, hk⟩ : ∃ k, (decodeL (x :: l)).2 = k := ⟨_, rfl⟩
      have ho := one_high (x :: l) (((x :: l).drop k).flatMap esc ++ 34 :: m) hne hb h2
      have hen := encode_decode (x :: l) hne hb
      rw [hk] at hv ho hpos hle hen
      have hfm : ((x :: l).take k).flatMap esc = (x :: l).take k := flatMap_high _ (fun y hy => enc_high _ h2 y (by rw [enc, hen]; exact hy))
      have hsplit : (x :: l).flatMap esc = (x :: l).take k ++ ((x :: l).drop k).flatMap esc := by
        conv => lhs; rw [← List.take_append_drop k (x :: l), List.flatMap_append, hfm]
      have hc : esc x ++ (l.flatMap esc ++ 34 :: m) = (x :: l).take k ++ (((x :: l).drop k).flatMap esc ++ 34 :: m) := by
        rw [← List.append_assoc, ← List.flatMap_cons, hsplit, List.append_assoc]
      have hlt : ((x :: l).take k).length = k := by rw [List.length_take]; omega
      have hlen : (esc x).length + (l.flatMap esc).length = k + (((x :: l).drop k).flatMap esc).length := by
        have := congrArg List.length hsplit
        rw [List.flatMap_cons, List.length_append, List.length_append, hlt] at this
        exact this
      have h34 := head_esc x (l.flatMap esc ++ 34 :: m)
      rw [hc] at hne2 h34 ⊢
      rw [unq_step _ _ _ _ _ _ hne2 h34 ho]
      rw [List.drop_left' hlt, unq_quoted n f _ m (acc ++ (x :: l).take k) _ (by rw [List.length_drop]; omega) hv (by omega) (by
        rw [List.length_append, hlt, List.length_drop]; omega)]
      rw [List.append_assoc, List.take_append_drop, List.length_append, hlen, Nat.add_assoc i k]
theorem unquote_quote (l m : List UInt8) (h : validD l = true) (hl : l.length ≤ 4096) : unquote (quote l ++ m) = (l, (quote l).length, 0) := by
  have e : quote l ++ m = 34 :: (l.flatMap esc ++ 34 :: m) := by unfold quote; simp
  rw [e]
  unfold unquote
  rw [if_neg (by simp), if_neg (by simp)]
  show unq _ (l.flatMap esc ++ 34 :: m) [] 1 = _
  rw [unq_quoted l.length _ l m [] 1 (Nat.le_refl _) h (by simp; omega) (by simpa using hl)]
  unfold quote
  simp; omega
end Str
end Go.Proofs.YtiaohbikaofbdaaDoor
