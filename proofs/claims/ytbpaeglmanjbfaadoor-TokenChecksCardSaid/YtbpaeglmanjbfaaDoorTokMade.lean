/- Scanning a text formatted from tokens. No program in sight. -/
import Derived.Test.YtbpaeglmanjbfaaDoorTokShort2
import Derived.Test.YtbpaeglmanjbfaaDoorTokTail
namespace Go.Proofs.YtbpaeglmanjbfaaDoor
set_option linter.unusedSimpArgs false
set_option linter.unusedVariables false
namespace Tok
open Go.Lib
/-- The format of l behind the token ahead of it. -/
def fmtO : Option TI → List TI → List UInt8
  | _, [] => []
  | p, t :: l => List.replicate (gapO p t) 32 ++ (sourceL t ++ fmtO (some t) l)
theorem fmtN_fmtO (l : List TI) : ∀ (rest pre : List TI), l = pre ++ rest → fmtN l l.length = fmtN l pre.length ++ fmtO pre.getLast? rest
  | [], pre, h => by rw [List.append_nil] at h; subst h; simp [fmtO]
  | t :: rest, pre, h => by
    have ih := fmtN_fmtO l rest (pre ++ [t]) (by rw [h]; simp)
    have hlt : pre.length < l.length := by rw [h]; simp
    have hget : l[pre.length] = t := by simp [h]
    rw [ih]
    have e1 : (pre ++ [t]).length = pre.length + 1 := by simp
    have e2 : (pre ++ [t]).getLast? = some t := by simp
    rw [e1, e2, fmtN_succ l pre.length hlt, hget]
    show _ = _ ++ (List.replicate (gapO pre.getLast? t) 32 ++ (sourceL t ++ fmtO (some t) rest))
    have hg : (if gapB l pre.length then fmtN l pre.length ++ [32] else fmtN l pre.length) = fmtN l pre.length ++ List.replicate (gapO pre.getLast? t) 32 := by
      rcases List.eq_nil_or_concat pre with rfl | ⟨q, a, hqa⟩
      · rfl
      · rw [List.concat_eq_append] at hqa
        subst hqa
        have e3 : (q ++ [a]).length = q.length + 1 := by simp
        have e4 : (q ++ [a]).getLast? = some a := by simp
        have hg2 := gapB_succ l q.length (by rw [e3] at hlt; exact hlt)
        have ga : l[q.length]'(by rw [e3] at hlt; omega) = a := by simp [h]
        have gt : l[q.length + 1]'(by rw [e3] at hlt; exact hlt) = t := by simp [h]
        rw [ga, gt] at hg2
        rw [e3, e4, hg2]
        show _ = _ ++ List.replicate (if apartT a t then 1 else 0) 32
        split <;> simp
    rw [hg]
    simp only [List.append_assoc]
theorem fmt_fmtO (l : List TI) : fmt l = fmtO none l := by
  have := fmtN_fmtO l l [] rfl
  simpa [fmt, fmtN] using this
theorem span_ext (p : UInt8 → Bool) : ∀ (l r : List UInt8), spanN p l = l.length → (∀ c, r.head? = some c → p c = false) → spanN p (l ++ r) = l.length
  | [], r, h, hr => by
    cases r with
    | nil => rfl
    | cons c r => have := hr c rfl; simp [spanN, this]
  | b :: l, r, h, hr => by
    cases hb : p b with
    | false => simp [spanN, hb] at h
    | true =>
      simp only [spanN, hb, if_true, List.length_cons] at h
      have := span_ext p l r (by omega) hr
      simp only [List.cons_append, spanN, hb, if_true, List.length_cons, this]
/-- What may stand right behind a token. -/
def NextOK (k : Int) (S r : List UInt8) : Prop :=
  ∀ c, r.head? = some c → (k = 1 → isLetter c = false ∧ isDigit c = false) ∧ (k = 2 → isDigit c = false) ∧ (k = 4 → ∀ a, S = [a] → isTwo a c = false)
theorem one_ext (b : UInt8) (s r : List UInt8) (h : one 32 (b :: s) = .ok (s.length + 1)) (hr : NextOK (kindOf b) (b :: s) r) : one 32 (b :: s ++ r) = .ok (s.length + 1) := by
  rcases one_cases 32 b s _ h with ⟨rfl, hn⟩ | ⟨h10, hl, hn, h64⟩ | ⟨h10, hl, hd, hn⟩ | ⟨rfl, m, hm, hn⟩ | ⟨h10, hl, hd, h34, hn, hn0⟩
  · obtain rfl : s = [] := List.eq_nil_of_length_eq_zero (by omega)
    rfl
  · have hk : kindOf b = 1 := by simp [kindOf, h10, hl]
    have := span_ext (fun c => isLetter c || isDigit c) (b :: s) r hn.symm (fun c hc => by have := (hr c hc).1 hk; simp [this.1, this.2])
    rw [List.length_cons] at this
    simp only [List.cons_append] at this ⊢
    simp only [one, oneW]
    rw [if_neg h10, if_pos hl, this, if_neg (by omega)]
  · have hk : kindOf b = 2 := by simp [kindOf, h10, hl, hd]
    have := span_ext isDigit (b :: s) r hn.symm (fun c hc => (hr c hc).2.1 hk)
    rw [List.length_cons] at this
    simp only [List.cons_append] at this ⊢
    simp only [one, oneW]
    rw [if_neg h10, if_neg (by simp [hl]), if_pos hd, this]
  · have := src_local 32 s [] r m (by rw [List.append_nil]; exact hm) (by omega)
    simp only [List.cons_append]
    simp only [one, oneW]
    rw [if_neg (by decide), if_neg (by decide), if_neg (by decide), if_pos trivial, this]
    simp only; congr 1; omega
  · have hk : kindOf b = 4 := by simp [kindOf, h10, hl, hd, h34]
    have hs : signN (b :: s ++ r) = s.length + 1 := by
      match s, hn with
      | [], hn =>
        have ho : isOne b = true := by
          simp only [signN] at hn
          split at hn
          · assumption
          · simp at hn
        cases r with
        | nil => simp [signN, ho]
        | cons c r =>
          have := (hr c rfl).2.2 hk b rfl
          simp [signN, this, ho]
      | [c], hn =>
        have e : signN (b :: [c] ++ r) = signN (b :: [c]) := rfl
        rw [e, ← hn]
      | c :: d :: s, hn =>
        have : signN (b :: c :: d :: s) ≤ 2 := by
          simp only [signN]; split
          · omega
          · split <;> omega
        simp at hn; omega
    simp only [List.cons_append] at hs ⊢
    simp only [one, oneW]
    rw [if_neg h10, if_neg (by simp [hl]), if_neg (by simp [hd]), if_neg h34, hs, if_neg (by omega)]
/-- A token that is one, read. -/
theorem valid_read (t : TI) (h : validB t = true) : ∃ b s, sourceL t = b :: s ∧ one 32 (b :: s) = .ok (s.length + 1) ∧ kindOf b = t.1 ∧ (∀ r, textL (b :: s ++ r) (s.length + 1) = t.2.1) ∧ beginsB (b :: s) = true := by
  unfold validB at h
  simp only [Bool.and_eq_true] at h
  obtain ⟨hp, hb, hm⟩ := h
  unfold preB at hp
  rw [decide_eq_true_eq] at hp
  obtain ⟨hne, h1, h5⟩ := hp
  cases hS : sourceL t with
  | nil => exact absurd hS hne
  | cons b s =>
    rw [hS] at hb hm
    cases ho : one 32 (b :: s) with
    | err e a => rw [ho] at hm; cases hm
    | trunc => rw [ho] at hm; cases hm
    | ok n =>
      rw [ho] at hm
      simp only [Bool.and_eq_true, beq_iff_eq] at hm
      obtain ⟨hn, hk⟩ := hm
      rw [List.length_cons] at hn
      subst hn
      have hk' : kindOf b = t.1 := hk
      refine ⟨b, s, rfl, ho, hk', fun r => ?_, hb⟩
      unfold sourceL at hS
      by_cases h3 : t.1 = 3
      · rw [if_pos h3] at hS
        injection hS with e1 e2
        subst e1; subst e2
        unfold textL
        simp
      · rw [if_neg h3] at hS
        have hb34 : b ≠ 34 := fun h => h3 (by rw [← hk', (kindOf_34 b).2 h])
        unfold textL
        rw [if_neg (by simpa using hb34), hS]
        simp
theorem two_snd (a c : UInt8) (h : isTwo a c = true) : c = 62 ∨ c = 61 ∨ c = 38 ∨ c = 124 := by
  unfold isTwo at h
  simp only [Bool.or_eq_true, Bool.and_eq_true, beq_iff_eq] at h
  rcases h with (((((h | h) | h) | h) | h) | h) | h <;> simp [h.2]
theorem one_not (a : UInt8) (h : isOne a = true) : a ≠ 38 ∧ a ≠ 124 := by
  constructor <;> (rintro rfl; exact absurd h (by decide))
theorem kindOf_5 (b : UInt8) (h : kindOf b = 5) : b = 10 := by
  unfold kindOf at h
  split at h
  · assumption
  · split at h
    · omega
    · split at h
      · omega
      · split at h <;> omega
theorem letter_digit (c : UInt8) (h : isLetter c = true) : isDigit c = false := by
  unfold isLetter at h; unfold isDigit
  simp only [Bool.or_eq_true, Bool.and_eq_true, beq_iff_eq, decide_eq_true_eq] at h
  rw [Bool.and_eq_false_iff, decide_eq_false_iff_not, decide_eq_false_iff_not]
  have e : ∀ x y : UInt8, x ≤ y ↔ x.toNat ≤ y.toNat := fun x y => UInt8.le_iff_toNat_le
  simp only [e, ← UInt8.toNat_inj] at *
  simp at *
  omega
theorem next_apart (t u : TI) (ht : validB t = true) (hu : validB u = true) (hap : apartT t u = false) (r : List UInt8) : NextOK t.1 (sourceL t) (sourceL u ++ r) := by
  obtain ⟨b, s, hb, hob, hkb, _, _⟩ := valid_read t ht
  obtain ⟨d, v, hd, hod, hkd, htx, _⟩ := valid_read u hu
  intro c hc
  rw [hd] at hc
  simp at hc
  subst hc
  have hap' : apartB t.1 t.2.1 u.1 u.2.1 = false := hap
  unfold apartB at hap'
  rw [hb]
  refine ⟨fun h => ?_, fun h => ?_, fun h a ha => ?_⟩
  · rw [if_pos h] at hap'
    simp only [Bool.or_eq_false_iff, beq_eq_false_iff_ne, ne_eq] at hap'
    rw [← hkd] at hap'
    unfold kindOf at hap'
    split at hap'
    · next h10 => subst h10; exact ⟨rfl, rfl⟩
    · split at hap'
      · omega
      · next hl => split at hap'
                   · omega
                   · next hdg => exact ⟨by simpa using hl, by simpa using hdg⟩
  · rw [if_neg (by omega), if_pos h] at hap'
    simp only [beq_eq_false_iff_ne, ne_eq] at hap'
    rw [← hkd] at hap'
    unfold kindOf at hap'
    split at hap'
    · next h10 => subst h10; rfl
    · split at hap'
      · next hl => exact letter_digit _ hl
      · split at hap'
        · omega
        · next hdg => simpa using hdg
  · injection ha with ha hs
    subst ha; subst hs
    rw [h] at hkb
    obtain ⟨hbd, hbl, hb10, hb34⟩ := kindOf_4 b hkb
    have hone : isOne b = true := by
      rcases one_cases 32 b [] _ hob with ⟨h, _⟩ | ⟨_, h, _⟩ | ⟨_, _, h, _⟩ | ⟨h, _⟩ | ⟨_, _, _, _, hn, _⟩
      · exact absurd h hb10
      · rw [hbl] at h; cases h
      · rw [hbd] at h; cases h
      · exact absurd h hb34
      · simp only [signN] at hn
        split at hn
        · assumption
        · simp at hn
    by_cases hu4 : u.1 = 4
    · rw [if_neg (by omega), if_neg (by omega), if_pos ⟨h, hu4⟩] at hap'
      have htt : t.2.1 = [b] := by
        unfold sourceL at hb; rw [if_neg (by omega)] at hb; exact hb
      have hut : u.2.1 = d :: v := by
        unfold sourceL at hd; rw [if_neg (by omega)] at hd; exact hd
      rw [htt, hut] at hap'
      cases h2 : isTwo b d with
      | false => rfl
      | true =>
        exfalso
        rcases two_snd b d h2 with rfl | rfl | rfl | rfl
        · simp [isTwo] at h2
          subst h2
          simp at hap'
        · simp [isTwo] at h2
          simp at hap'
          simp [hap'] at h2
        · simp [isTwo] at h2
          exact (one_not b hone).1 h2
        · simp [isTwo] at h2
          exact (one_not b hone).2 h2
    · cases h2 : isTwo b d with
      | false => rfl
      | true =>
        exfalso
        rcases two_snd b d h2 with rfl | rfl | rfl | rfl <;> exact hu4 (by rw [← hkd]; rfl)
theorem next_blank (k : Int) (S r : List UInt8) : NextOK k S (32 :: r) := by
  intro c hc
  simp at hc
  subst hc
  refine ⟨fun _ => ⟨rfl, rfl⟩, fun _ => rfl, fun _ a _ => ?_⟩
  cases h2 : isTwo a 32 with
  | false => rfl
  | true => rcases two_snd a 32 h2 with h | h | h | h <;> exact absurd h (by decide)
theorem skip_begins (b : UInt8) (l : List UInt8) (h : beginsB (b :: l) = true) : skipN (b :: l) = 0 := by
  have hbl : isBlank b = false := by
    cases hx : isBlank b with
    | false => rfl
    | true =>
      unfold isBlank at hx
      simp only [Bool.or_eq_true, beq_iff_eq] at hx
      rw [begins_cons] at h
      rcases hx with (rfl | rfl) | rfl <;> (exfalso; revert h; cases l with
        | nil => simp [isLetter, isDigit, signN, isOne]
        | cons c l => simp [isLetter, isDigit, signN, isOne, isTwo])
  have h35 : b ≠ 35 := by
    rintro rfl
    rw [begins_cons] at h
    revert h
    cases l with
    | nil => simp [isLetter, isDigit, signN, isOne]
    | cons c l => simp [isLetter, isDigit, signN, isOne, isTwo]
  rw [skip_nb b l hbl]
  unfold commentN
  rw [if_neg (by simpa using h35)]
theorem made_chain (a : Int) (L : List UInt8) : ∀ (init : List TI) (p : Option TI) (j : Nat), (∀ x ∈ init, validB x = true) → j ≤ L.length → L.drop j = fmtO p (init ++ [(6, [], a)]) →
    ∃ toks, Chain L j toks ∧ (toI toks).map (fun t : TI => (t.1, t.2.1)) = (init ++ [(6, [], a)]).map (fun t : TI => (t.1, t.2.1))
  | [], p, j, hv, hj, hd => by
    have hg : gapO p (6, [], a) = 0 := by
      cases p with
      | none => rfl
      | some x => show (if apartT x (6, [], a) then 1 else 0) = 0; rw [apart_end]; rfl
    have he : L.drop j = [] := by
      rw [hd]
      show List.replicate (gapO p (6, [], a)) 32 ++ (sourceL (6, [], a) ++ []) = []
      rw [hg]; rfl
    exact ⟨_, Chain.fin j j (by rw [he]; rfl) he, rfl⟩
  | t :: init, p, j, hv, hj, hd => by
    have hvt := hv t (by simp)
    obtain ⟨b, s, hb, hob, hkb, htx, hbg⟩ := valid_read t hvt
    obtain ⟨F, hF⟩ : ∃ F, fmtO (some t) (init ++ [(6, [], a)]) = F := ⟨_, rfl⟩
    have hd2 : L.drop j = List.replicate (gapO p t) 32 ++ (b :: s ++ F) := by rw [hd, ← hF, ← hb]; rfl
    have hnext : NextOK (kindOf b) (b :: s) F := by
      rw [hkb, ← hb, ← hF]
      cases init with
      | nil =>
        show NextOK t.1 (sourceL t) (List.replicate (gapO (some t) (6, [], a)) 32 ++ (sourceL (6, [], a) ++ []))
        rw [show gapO (some t) (6, [], a) = 0 by show (if apartT t (6, [], a) then 1 else 0) = 0; rw [apart_end]; rfl]
        intro c hc
        cases hc
      | cons u init =>
        show NextOK t.1 (sourceL t) (List.replicate (gapO (some t) u) 32 ++ (sourceL u ++ fmtO (some u) (init ++ [(6, [], a)])))
        show NextOK t.1 (sourceL t) (List.replicate (if apartT t u then 1 else 0) 32 ++ (sourceL u ++ fmtO (some u) (init ++ [(6, [], a)])))
        cases hap : apartT t u with
        | true => exact next_blank _ _ _
        | false => exact next_apart t u hvt (hv u (by simp)) hap _
    have hone := one_ext b s F hob hnext
    have hgap : ∀ g, (g = 0 ∨ g = 1) → ∀ l, beginsB (b :: l) = true → skipN (List.replicate g 32 ++ (b :: l)) = g := by
      intro g hg l hl
      rcases hg with rfl | rfl
      · exact skip_begins b l hl
      · show skipN (32 :: (b :: l)) = 1
        rw [skip_blank 32 _ rfl, skip_begins b l hl]
    have hg01 : gapO p t = 0 ∨ gapO p t = 1 := by
      cases p with
      | none => exact .inl rfl
      | some x => show (if apartT x t then 1 else 0) = 0 ∨ (if apartT x t then 1 else 0) = 1; split <;> simp
    have hbF : beginsB (b :: (s ++ F)) = true := by
      have := begins_of_one (b :: s ++ F) _ hone
      exact this
    have hsk : skipN (L.drop j) = gapO p t := by rw [hd2]; exact hgap _ hg01 (s ++ F) hbF
    have hlen : L.length - j = gapO p t + (s.length + 1 + F.length) := by
      have := congrArg List.length hd2
      rw [List.length_drop] at this
      simp at this; omega
    have hdk : L.drop (j + gapO p t) = b :: s ++ F := by
      rw [← List.drop_drop, hd2, List.drop_left' (by simp)]
    have hdn : L.drop (j + gapO p t + (s.length + 1)) = F := by
      rw [← List.drop_drop, hdk, List.drop_left' (by simp)]
    obtain ⟨toks, hc, hm⟩ := made_chain a L init (some t) (j + gapO p t + (s.length + 1)) (fun x hx => hv x (by simp [hx])) (by omega) (by rw [hdn, hF])
    refine ⟨_, Chain.step j (j + gapO p t) (s.length + 1) toks (by rw [hsk]) (by omega) (by rw [hdk]; exact hbF) (by rw [hdk]; exact hone) hc, ?_⟩
    rw [hdk, htx F]
    show (kindOf b, t.2.1) :: (toI toks).map _ = (t.1, t.2.1) :: (init ++ [(6, [], a)]).map _
    rw [hkb, hm]
/-- Scanning a formatted list of tokens gives these tokens. -/
theorem scan_made (l : List TI) (h : checkZ l = 0) (hlen : l.length ≤ 16384) : ∃ toks, scan (fmt l) = ⟨toks, 0, 0⟩ ∧ sameB l (toI toks) = true := by
  unfold checkZ at h
  split at h
  · next hlast =>
    split at h
    · next hall =>
      split at h
      · omega
      · next hbig =>
        rcases List.eq_nil_or_concat l with rfl | ⟨init, e, he⟩
        · cases hlast
        · rw [List.concat_eq_append] at he
          subst he
          have h1 : e.1 = 6 ∧ e.2.1 = [] := by
            unfold lastB at hlast
            simpa using hlast
          obtain ⟨k, tx, a⟩ := e
          obtain ⟨h2, h3⟩ := h1
          simp only at h2 h3
          subst h2; subst h3
          have hv : ∀ x ∈ init, validB x = true := by
            rw [List.all_eq_true] at hall
            intro x hx
            exact hall x (by simpa using hx)
          obtain ⟨toks, hc, hm⟩ := made_chain a (fmt (init ++ [(6, [], a)])) init none 0 hv (Nat.zero_le _) (by rw [List.drop_zero, fmt_fmtO])
          refine ⟨toks, chain_scan _ _ hc (by omega) ?_, ?_⟩
          · have := congrArg List.length hm
            simp [toI] at this
            simp at hlen
            omega
          · unfold sameB
            rw [decide_eq_true_eq, hm]
    · omega
  · omega
end Tok
end Go.Proofs.YtbpaeglmanjbfaaDoor
