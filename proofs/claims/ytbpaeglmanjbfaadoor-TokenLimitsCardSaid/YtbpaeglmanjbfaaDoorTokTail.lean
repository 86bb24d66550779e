/- Blanks and a comment at the end of a text. No program in sight. -/
import Derived.Test.YtbpaeglmanjbfaaDoorTokShort
namespace Go.Proofs.YtbpaeglmanjbfaaDoor
set_option linter.unusedSimpArgs false
set_option linter.unusedVariables false
namespace Tok
open Go.Lib
theorem skip_local (l C : List UInt8) (h : skipN l < l.length) : skipN (l ++ C) = skipN l := by
  have hs : skipN l = blanksN l + commentN (l.drop (blanksN l)) := rfl
  have hb : blanksN (l ++ C) = blanksN l := by
    have := span_local isBlank l [] C (by rw [List.append_nil]; show blanksN l < _; omega)
    rw [List.append_nil] at this; exact this
  have hd : (l ++ C).drop (blanksN l) = l.drop (blanksN l) ++ C := drop_app _ _ _ (by omega)
  show blanksN (l ++ C) + commentN ((l ++ C).drop (blanksN (l ++ C))) = _
  rw [hb, hd, hs]
  congr 1
  have hlen : commentN (l.drop (blanksN l)) < (l.drop (blanksN l)).length := by rw [List.length_drop]; omega
  generalize l.drop (blanksN l) = m at *
  cases m with
  | nil => simp at hlen
  | cons b m =>
    have e1 : (b :: m).head? = some (35 : UInt8) ↔ b = 35 := by simp
    have e2 : (b :: m ++ C).head? = some (35 : UInt8) ↔ b = 35 := by simp
    unfold commentN at hlen ⊢
    by_cases h35 : b = 35
    · rw [if_pos (e1.2 h35)] at hlen
      rw [if_pos (e1.2 h35), if_pos (e2.2 h35)]
      have := span_local (· != 10) (b :: m) [] C (by rw [List.append_nil]; exact hlen)
      rw [List.append_nil] at this
      exact this
    · rw [if_neg (fun h => h35 (e1.1 h)), if_neg (fun h => h35 (e2.1 h))]
theorem begins_of_one (l : List UInt8) (n : Nat) (h : one 32 l = .ok n) : beginsB l = true := by
  cases l with
  | nil => simp [one, oneW] at h
  | cons b t =>
    rw [begins_cons]
    rcases one_cases 32 b t n h with ⟨rfl, _⟩ | ⟨_, hl, _⟩ | ⟨_, _, hd, _⟩ | ⟨rfl, _⟩ | ⟨_, _, _, _, hn, hn0⟩
    · simp
    · simp [hl]
    · simp [hd]
    · simp
    · rw [← hn]; simp [hn0]
/-- The last token ahead of the end is a newline, if there is one. -/
def NL : List T → Prop
  | [] => False
  | [_] => True
  | [x, _] => x.1 = 5
  | _ :: y :: z :: l => NL (y :: z :: l)
theorem chain_ne (L : List UInt8) (j : Nat) (toks : List T) (h : Chain L j toks) : toks ≠ [] := by cases h <;> simp
theorem chain_tail (L C : List UInt8) (hC : ∀ l, skipN l = l.length → skipN (l ++ C) = (l ++ C).length) (j : Nat) (toks : List T) (h : Chain L j toks) :
    j ≤ L.length → NL toks → Chain (L ++ C) j (toks.dropLast ++ [(6, [], (L ++ C).length)]) := by
  induction h with
  | fin j k hk he =>
    intro hj _
    have hkl : L.length ≤ k := List.drop_eq_nil_iff.1 he
    have hs := skipN_le (L.drop j)
    rw [List.length_drop] at hs
    have h1 := hC (L.drop j) (by rw [List.length_drop]; omega)
    refine Chain.fin j _ ?_ (by simp)
    rw [drop_app _ _ _ hj, h1]
    simp; omega
  | step j k n rest hk hlt hb ho hr ih =>
    intro hj hnl
    have hn := one_len' 32 _ _ ho
    rw [List.length_drop] at hn
    have hne := chain_ne _ _ _ hr
    have hdk : (L ++ C).drop k = L.drop k ++ C := drop_app _ _ _ (by omega)
    have hnr : NL rest := by
      cases rest with
      | nil => exact absurd rfl hne
      | cons y rest =>
        cases rest with
        | nil => trivial
        | cons z rest => exact hnl
    have ho' : one 32 (L.drop k ++ C) = .ok n := by
      by_cases hend : k + n < L.length
      · exact one_local 32 (L.drop k) [] C n (by rw [List.append_nil]; exact ho) (by rw [List.length_drop]; omega)
      · -- the last token is the newline
        have h5 : kindL (L.drop k) = 5 := by
          cases hr with
          | fin _ _ _ _ => exact hnl
          | step _ k2 n2 _ hk2 hlt2 _ _ _ => omega
        cases hx : L.drop k with
        | nil => have := congrArg List.length hx; simp at this; omega
        | cons c r =>
          rw [hx] at h5 ho
          have hc : c = 10 := by
            have h5' : kindOf c = 5 := h5
            unfold kindOf at h5'
            split at h5'
            · assumption
            · split at h5'
              · omega
              · split at h5'
                · omega
                · split at h5' <;> omega
          subst hc
          have h1 : n = 1 := by
            rcases one_cases 32 10 r n ho with ⟨_, h⟩ | ⟨h, _⟩ | ⟨h, _⟩ | ⟨h, _⟩ | ⟨h, _⟩
            · exact h
            · exact absurd rfl h
            · exact absurd rfl h
            · exact absurd h (by decide)
            · exact absurd rfl h
          subst h1
          rfl
    have hkind : kindL (L.drop k ++ C) = kindL (L.drop k) := by
      cases hx : L.drop k with
      | nil => have := congrArg List.length hx; simp at this; omega
      | cons c r => rfl
    have htext : textL (L.drop k ++ C) n = textL (L.drop k) n := by
      have hl : (L.drop k).length = L.length - k := List.length_drop
      cases hx : L.drop k with
      | nil => have := congrArg List.length hx; simp at this; omega
      | cons c r =>
        rw [hx] at hl
        unfold textL
        simp only [List.cons_append, List.head?_cons, List.drop_succ_cons, List.drop_zero]
        split
        · rw [take_app]; simp at hl; omega
        · rw [← List.cons_append, take_app _ _ _ (by omega)]
    have hdl : ((kindL (L.drop k), textL (L.drop k) n, k) :: rest).dropLast = (kindL (L.drop k), textL (L.drop k) n, k) :: rest.dropLast := List.dropLast_cons_of_ne_nil hne
    have hsj : j + skipN ((L ++ C).drop j) = k := by
      rw [drop_app _ _ _ hj, skip_local _ _ (by rw [List.length_drop]; omega)]; exact hk
    rw [hdl, List.cons_append]
    have key := Chain.step (L := L ++ C) j k n (rest.dropLast ++ [(6, [], (L ++ C).length)]) hsj (by rw [List.length_append]; omega) (by rw [hdk]; exact begins_of_one _ _ ho') (by rw [hdk]; exact ho') (ih (by omega) hnr)
    rw [hdk, hkind, htext] at key
    exact key
theorem skip_blank (b : UInt8) (l : List UInt8) (h : isBlank b = true) : skipN (b :: l) = skipN l + 1 := by
  unfold skipN blanksN
  simp only [spanN, h, if_true, List.drop_succ_cons]; omega
theorem skip_nb (b : UInt8) (l : List UInt8) (h : isBlank b = false) : skipN (b :: l) = commentN (b :: l) := by
  unfold skipN blanksN
  simp [spanN, h]
theorem span_all (q : UInt8 → Bool) : ∀ l : List UInt8, (∀ x ∈ l, q x = true) → spanN q l = l.length
  | [], _ => rfl
  | b :: l, h => by
    simp only [spanN, h b (List.mem_cons_self ..), if_true, List.length_cons]
    rw [span_all q l (fun x hx => h x (List.mem_cons_of_mem _ hx))]
theorem span_all' (q : UInt8 → Bool) : ∀ l : List UInt8, spanN q l = l.length → ∀ x ∈ l, q x = true
  | [], _, x, hx => by cases hx
  | b :: l, h, x, hx => by
    cases hb : q b with
    | false => simp [spanN, hb] at h
    | true =>
      simp only [spanN, hb, if_true, List.length_cons] at h
      rcases List.mem_cons.1 hx with rfl | hx
      · exact hb
      · exact span_all' q l (by omega) x hx
theorem comment_at' (l : List UInt8) : commentN (35 :: l) = spanN (· != 10) (35 :: l) := by
  unfold commentN; rw [if_pos (by rfl)]
/-- Blanks and a comment are skipped whole, behind whatever is skipped whole. -/
theorem tail_skip (n : Nat) (c : List UInt8) (hc : (10 : UInt8) ∉ c) : ∀ l : List UInt8, skipN l = l.length → skipN (l ++ (List.replicate n 32 ++ 35 :: c)) = (l ++ (List.replicate n 32 ++ 35 :: c)).length
  | [], _ => by
    rw [List.nil_append]
    induction n with
    | zero =>
      rw [List.replicate_zero, List.nil_append, skip_nb _ _ (by decide), comment_at']
      exact span_all _ _ (fun x hx => by
        rcases List.mem_cons.1 hx with rfl | hx
        · decide
        · have : x ≠ 10 := fun h => hc (h ▸ hx)
          simpa using this)
    | succ n ih => rw [List.replicate_succ, List.cons_append, skip_blank _ _ (by decide), ih]; simp
  | b :: l, h => by
    cases hb : isBlank b with
    | true =>
      rw [skip_blank b l hb] at h
      rw [List.cons_append, skip_blank _ _ hb, tail_skip n c hc l (by simpa using h)]
      simp
    | false =>
      rw [skip_nb b l hb] at h
      by_cases h35 : b = 35
      · subst h35
        rw [comment_at'] at h
        have h2 := span_all' _ _ h
        rw [List.cons_append, skip_nb _ _ (by decide), comment_at']
        refine span_all _ _ (fun x hx => ?_)
        rw [← List.cons_append] at hx
        rcases List.mem_append.1 hx with hx | hx
        · exact h2 x hx
        · rcases List.mem_append.1 hx with hx | hx
          · have := List.eq_of_mem_replicate hx; subst this; decide
          · rcases List.mem_cons.1 hx with rfl | hx
            · decide
            · have : x ≠ 10 := fun h => hc (h ▸ hx)
              simpa using this
      · have : commentN (b :: l) = 0 := by unfold commentN; rw [if_neg (by simpa using h35)]
        rw [this] at h
        simp at h
/-- Scan of a text with blanks and a comment behind it. -/
theorem scan_tail (L : List UInt8) (n : Nat) (c : List UInt8) (hc : (10 : UInt8) ∉ c) (h : Chain L 0 (scan L).toks) (hnl : NL (scan L).toks) (hlen : (scan L).toks.length ≤ 16384) (hl : (L ++ (List.replicate n 32 ++ 35 :: c)).length ≤ 65536) :
    scan (L ++ (List.replicate n 32 ++ 35 :: c)) = ⟨(scan L).toks.dropLast ++ [(6, [], (L ++ (List.replicate n 32 ++ 35 :: c)).length)], 0, 0⟩ := by
  have hne := chain_ne _ _ _ h
  refine chain_scan _ _ (chain_tail L _ (tail_skip n c hc) 0 _ h (by omega) hnl) hl ?_
  have : (scan L).toks.length ≠ 0 := fun h => hne (List.eq_nil_of_length_eq_zero h)
  simp; omega
theorem NL_of (l : List T) (h : 2 ≤ l.length) (h5 : (l[l.length - 2]'(by omega)).1 = 5) : NL l := by
  match l with
  | [] => simp at h
  | [x] => simp at h
  | [x, y] => exact h5
  | w :: x :: y :: l =>
    show NL (x :: y :: l)
    exact NL_of (x :: y :: l) (by simp) (by simpa using h5)
end Tok
end Go.Proofs.YtbpaeglmanjbfaaDoor
