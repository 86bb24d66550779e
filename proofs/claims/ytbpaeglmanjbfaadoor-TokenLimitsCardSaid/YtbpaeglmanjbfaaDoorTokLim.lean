/- What Scan answers to the texts of the law TokenLimits. No program in sight. -/
import Derived.Test.YtbpaeglmanjbfaaDoorTokTail
namespace Go.Proofs.YtbpaeglmanjbfaaDoor
set_option linter.unusedSimpArgs false
set_option linter.unusedVariables false
namespace Tok
open Go.Lib
theorem skip_blanks : ∀ n : Nat, skipN (List.replicate n 32) = n
  | 0 => rfl
  | n + 1 => by rw [List.replicate_succ, skip_blank 32 _ rfl, skip_blanks n]
/-- A text of n blanks. -/
theorem scan_blanks (n : Nat) : (65536 < n → scan (List.replicate n 32) = ⟨[], 3, 0⟩) ∧ (n ≤ 65536 → scan (List.replicate n 32) = ⟨[(6, [], n)], 0, 0⟩) := by
  constructor
  · intro h; unfold scan; rw [List.length_replicate, if_pos h]
  · intro h
    refine chain_scan _ _ (Chain.fin 0 n (by rw [List.drop_zero, skip_blanks]; omega) (List.drop_of_length_le (by simp))) (by simpa using h) (by simp)
theorem skip_paren (n : Nat) : skipN (List.replicate n 40) = 0 := by
  cases n with
  | zero => rfl
  | succ n => rfl
theorem begins_paren (n : Nat) : beginsB (List.replicate (n + 1) 40) = true := by
  cases n with
  | zero => rfl
  | succ n => rfl
theorem one_paren (n : Nat) : one 32 (List.replicate (n + 1) 40) = .ok 1 := by
  cases n with
  | zero => rfl
  | succ n => rfl
theorem drop_rep (n j : Nat) (b : UInt8) : (List.replicate n b).drop j = List.replicate (n - j) b := by simp
/-- A text of n opening parentheses: the reading with the counter at j. -/
theorem scanF_parens (n : Nat) : ∀ (m j : Nat) (f : Nat) (acc : List T), n - j = m → j ≤ n → acc.length = j → j ≤ 16384 → m < f →
    (scanF f (List.replicate (n - j) 40) j acc).e = (if 16384 ≤ n then 14 else 0) ∧ (scanF f (List.replicate (n - j) 40) j acc).at' = (if 16384 ≤ n then 16384 else 0)
  | 0, j, f, acc, hm, hj, ha, hj2, hf => by
    obtain ⟨f, rfl⟩ : ∃ g, f = g + 1 := ⟨f - 1, by omega⟩
    rw [hm, scanF, skip_paren]
    obtain rfl : n = j := by omega
    simp only [List.replicate_zero, List.drop_zero, ne_eq, not_true_eq_false, false_and, if_false, Nat.add_zero, if_true]
    by_cases h : 16384 ≤ n
    · have h2 : acc.length = 16384 := by omega
      have h3 : n = 16384 := by omega
      simp [h, h2, h3]
    · have h2 : ¬ acc.length = 16384 := by omega
      simp [h, h2]
  | m + 1, j, f, acc, hm, hj, ha, hj2, hf => by
    obtain ⟨f, rfl⟩ : ∃ g, f = g + 1 := ⟨f - 1, by omega⟩
    rw [hm, scanF, skip_paren, List.drop_zero, one_paren, if_neg (by rw [begins_paren]; simp), Nat.add_zero]
    by_cases h : acc.length = 16384
    · rw [if_pos h, if_pos (by omega), if_pos (by omega)]; exact ⟨rfl, by show j = 16384; omega⟩
    · rw [if_neg h, if_neg (by simp)]
      simp only [Nat.zero_add]
      rw [drop_rep, show m + 1 - 1 = n - (j + 1) by omega]
      exact scanF_parens n m (j + 1) f _ (by omega) (by omega) (by simp [ha]) (by omega) (by omega)
theorem scan_parens (n : Nat) (h : n ≤ 65536) : (scan (List.replicate n 40)).e = (if 16384 ≤ n then 14 else 0) ∧ (scan (List.replicate n 40)).at' = (if 16384 ≤ n then 16384 else 0) := by
  unfold scan
  rw [if_neg (by simpa using h), List.length_replicate]
  exact scanF_parens n n 0 (n + 1) [] (by omega) (by omega) rfl (by omega) (by omega)
theorem span_rep (p : UInt8 → Bool) (b : UInt8) (h : p b = true) (n : Nat) : spanN p (List.replicate n b) = n := by
  induction n with
  | zero => rfl
  | succ n ih => rw [List.replicate_succ, spanN, if_pos h, ih]
/-- '= ' and a name of n bytes. -/
theorem scan_name (n : Nat) (h : n < 256) : (scan (61 :: 32 :: List.replicate n 97)).e = (if 64 < n then 7 else 0) ∧ (scan (61 :: 32 :: List.replicate n 97)).at' = (if 64 < n then 2 else 0) := by
  cases n with
  | zero => exact ⟨rfl, rfl⟩
  | succ n =>
    have hs : spanN (fun c => isLetter c || isDigit c) (List.replicate (n + 1) 97) = n + 1 := span_rep _ 97 rfl _
    have hone : one 32 (List.replicate (n + 1) 97) = if 64 < n + 1 then .err 7 0 else .ok (n + 1) := by
      have e : one 32 (List.replicate (n + 1) 97) = (if 64 < spanN (fun c => isLetter c || isDigit c) (List.replicate (n + 1) 97) then R.err 7 0 else .ok (spanN (fun c => isLetter c || isDigit c) (List.replicate (n + 1) 97))) := rfl
      rw [e, hs]
    have h1 : scan (61 :: 32 :: List.replicate (n + 1) 97) = scanF (n + 3) (32 :: List.replicate (n + 1) 97) 1 [(4, [61], 0)] := by
      unfold scan
      rw [if_neg (by simp; omega)]
      rw [show (61 :: 32 :: List.replicate (n + 1) (97 : UInt8)).length + 1 = (n + 3) + 1 by simp]
      rw [scanF]
      rfl
    rw [h1, scanF]
    have hsk : skipN (32 :: List.replicate (n + 1) 97) = 1 := rfl
    have hd : List.drop 1 (32 :: List.replicate (n + 1) (97 : UInt8)) = List.replicate (n + 1) 97 := rfl
    rw [hsk, hd, hone, if_neg (by rw [show beginsB (List.replicate (n + 1) 97) = true from rfl]; simp), if_neg (by simp), if_neg (by simp)]
    by_cases hb : 64 < n + 1
    · rw [if_pos hb, if_pos hb, if_pos hb]; exact ⟨rfl, rfl⟩
    · rw [if_neg hb, if_neg hb, if_neg hb]
      simp only
      rw [scanF]
      have he : List.drop (1 + (n + 1)) (32 :: List.replicate (n + 1) (97 : UInt8)) = [] := List.drop_of_length_le (by simp; omega)
      rw [he]
      exact ⟨rfl, rfl⟩
/-- n interpolations, one in the other, around a number; r follows. -/
def nest : Nat → List UInt8 → List UInt8
  | 0, r => 49 :: r
  | n + 1, r => 34 :: 36 :: 123 :: nest n (125 :: 34 :: r)
theorem nest_len : ∀ (n : Nat) (r : List UInt8), (nest n r).length = 5 * n + 1 + r.length
  | 0, r => by simp [nest]; omega
  | n + 1, r => by simp only [nest, List.length_cons, nest_len n]; omega
theorem nest_drop : ∀ (n : Nat) (r : List UInt8), (nest n r).drop (5 * n + 1) = r
  | 0, r => rfl
  | n + 1, r => by
    show List.drop (5 * (n + 1) + 1) (34 :: 36 :: 123 :: nest n (125 :: 34 :: r)) = r
    rw [show 5 * (n + 1) + 1 = (2 + (5 * n + 1)) + 3 by omega, List.drop_succ_cons, List.drop_succ_cons, List.drop_succ_cons, Nat.add_comm 2, ← List.drop_drop, nest_drop n]
    rfl
theorem nest_head (n : Nat) (r : List UInt8) : (nest n r).head? = some 49 ∨ (nest n r).head? = some 34 := by cases n <;> simp [nest]
theorem nest_blanks (n : Nat) (r : List UInt8) : blanksN (nest n r) = 0 := by cases n <;> rfl
theorem one_nest : ∀ (D n : Nat) (r : List UInt8), (∀ c, r.head? = some c → isDigit c = false) →
    one D (nest n r) = if n ≤ D then .ok (5 * n + 1) else .err 4 (3 * D + 1)
  | D, 0, r, hr => by
    rw [if_pos (Nat.zero_le _)]
    have hs : spanN isDigit (49 :: r) = 1 := by
      cases r with
      | nil => rfl
      | cons c r =>
        have := hr c rfl
        show (if isDigit 49 then (if isDigit c then _ else 0) + 1 else 0) = 1
        rw [this]; rfl
    show R.ok (spanN isDigit (49 :: r)) = _
    rw [hs]
  | 0, n + 1, r, hr => by
    rw [if_neg (by omega)]
    show (match srcW (fun _ => .err 4 0) ((36 :: 123 :: nest n (125 :: 34 :: r)).length + 1) (36 :: 123 :: nest n (125 :: 34 :: r)) with | .ok n => R.ok (n + 2) | r => r.up 1) = _
    have h3 : List.take 3 (36 :: 123 :: nest n (125 :: 34 :: r)) ≠ [36, 36, 123] := by simp
    rw [srcW, if_neg (by simp), if_neg (by simp), if_neg h3, if_pos (by rfl)]
    rfl
  | D + 1, n + 1, r, hr => by
    have ih := one_nest D n (125 :: 34 :: r) (by rintro c h; simp at h; subst h; rfl)
    generalize hX : nest n (125 :: 34 :: r) = X at ih
    have hXl : X.length = 5 * n + 3 + r.length := by rw [← hX, nest_len]; simp; omega
    have hXb : blanksN X = 0 := by rw [← hX]; exact nest_blanks _ _
    have hXd : X.drop (5 * n + 1) = 125 :: 34 :: r := by rw [← hX]; exact nest_drop _ _
    have hXh := nest_head n (125 :: 34 :: r)
    rw [hX] at hXh
    have hne : X ≠ [] := by intro h; rw [h] at hXl; simp only [List.length_nil] at hXl; omega
    have hin : innW (one D) (X.length + 3) 0 X = if n ≤ D then .ok (5 * n + 2) else .err 4 (3 * D + 1) := by
      rw [show X.length + 3 = (X.length + 2) + 1 from rfl, innW, hXb, List.drop_zero, if_neg hne, ih]
      by_cases hn : n ≤ D
      · rw [if_pos hn, if_pos hn]
        simp only [Nat.zero_add]
        have h125 : ¬ X.head? = some 125 := by rcases hXh with h | h <;> rw [h] <;> simp
        have h123 : ¬ X.head? = some 123 := by rcases hXh with h | h <;> rw [h] <;> simp
        rw [if_neg h125, if_neg h123, hXd, show X.length + 2 = (X.length + 1) + 1 from rfl, innW]
        have hb0 : blanksN (125 :: 34 :: r) = 0 := rfl
        rw [hb0, List.drop_zero, if_neg (by simp)]
        have hone : one D (125 :: 34 :: r) = .ok 1 := rfl
        rw [hone]
        simp only [List.head?_cons, if_true]
        rfl
      · rw [if_neg hn, if_neg hn]
        simp [R.up]
    have hsrc : src (D + 1) (36 :: 123 :: X) = if n ≤ D then .ok (5 * n + 4) else .err 4 (3 * D + 3) := by
      show srcW (fun l => (innW (oneW (src D)) (l.length + 1) 0 (l.drop 2)).up 2) ((36 :: 123 :: X).length + 1) (36 :: 123 :: X) = _
      have h3 : List.take 3 (36 :: 123 :: X) ≠ [36, 36, 123] := by simp
      rw [srcW, if_neg (by simp), if_neg (by simp), if_neg h3, if_pos (by rfl)]
      have e1 : (36 :: 123 :: X).length + 1 = X.length + 3 := rfl
      have e2 : List.drop 2 (36 :: 123 :: X) = X := rfl
      show (match (innW (oneW (src D)) ((36 :: 123 :: X).length + 1) 0 (List.drop 2 (36 :: 123 :: X))).up 2 with | .ok n => _ | r => r) = _
      rw [e1, e2, show oneW (src D) = one D from rfl, hin]
      by_cases hn : n ≤ D
      · rw [if_pos hn, if_pos hn]
        simp only [R.up]
        have e3 : List.drop (2 + (5 * n + 2)) (36 :: 123 :: X) = 34 :: r := by
          rw [show 2 + (5 * n + 2) = (1 + (5 * n + 1)) + 2 by omega, List.drop_succ_cons, List.drop_succ_cons, Nat.add_comm 1, ← List.drop_drop, hXd]; rfl
        rw [e3, show (36 :: 123 :: X).length = (X.length + 1) + 1 from rfl, srcW, if_neg (by simp), if_pos (show (34 :: r).head? = some 34 from rfl)]
        simp only [R.up]; congr 1; omega
      · rw [if_neg hn, if_neg hn]; simp only [R.up]; congr 1; omega
    show oneW (src (D + 1)) (34 :: 36 :: 123 :: nest n (125 :: 34 :: r)) = _
    rw [hX]
    show (match src (D + 1) (36 :: 123 :: X) with | .ok n => R.ok (n + 2) | r => r.up 1) = _
    rw [hsrc]
    by_cases hn : n ≤ D
    · rw [if_pos hn, if_pos (by omega)]
      show R.ok (5 * n + 4 + 2) = R.ok (5 * (n + 1) + 1)
      congr 1
    · rw [if_neg hn, if_neg (by omega)]; simp only [R.up]; congr 1; omega
theorem scan_nest (n : Nat) (h : n < 40) : (scan (nest n [])).e = (if 32 < n then 4 else 0) ∧ (scan (nest n [])).at' = (if 32 < n then 97 else 0) := by
  have ho := one_nest 32 n [] (by simp)
  have hl := nest_len n []
  have hd := nest_drop n []
  have hh := nest_head n []
  unfold scan
  rw [if_neg (by rw [hl]; simp; omega)]
  generalize nest n [] = X at *
  have hsk : skipN X = 0 := by
    cases X with
    | nil => rfl
    | cons b X => rcases hh with h | h <;> (simp at h; subst h; rfl)
  have hb : beginsB X = true := by
    cases X with
    | nil => simp at hl
    | cons b X => rcases hh with h | h <;> (simp at h; subst h; rfl)
  have hne : X ≠ [] := by intro h; rw [h] at hl; simp at hl
  rw [scanF, hsk, List.drop_zero, if_neg (by rw [hb]; simp), if_neg (by simp), if_neg hne, ho]
  by_cases hn : n ≤ 32
  · rw [if_pos hn, if_neg (by omega), if_neg (by omega)]
    simp only [Nat.zero_add]
    rw [hd, show X.length = (X.length - 1) + 1 by omega, scanF]
    exact ⟨rfl, rfl⟩
  · rw [if_neg hn, if_pos (by omega), if_pos (by omega)]; exact ⟨rfl, rfl⟩
theorem repeat_one (b : UInt8) : ∀ n : Nat, Lib.repeatL [b] n = List.replicate n b := by
  intro n
  induction n with
  | zero => rfl
  | succ n ih => rw [List.replicate_succ, ← ih]; rfl
theorem repeat_nest : ∀ (n : Nat) (r : List UInt8), Lib.repeatL [34, 36, 123] n ++ (49 :: (Lib.repeatL [125, 34] n ++ r)) = nest n r
  | 0, r => rfl
  | n + 1, r => by
    have hc : ∀ n : Nat, Lib.repeatL [125, 34] (n + 1) = Lib.repeatL [125, 34] n ++ [125, 34] := by
      intro n
      induction n with
      | zero => rfl
      | succ n ih =>
        show [125, 34] ++ Lib.repeatL [125, 34] (n + 1) = ([125, 34] ++ Lib.repeatL [125, 34] n) ++ [125, 34]
        rw [ih, List.append_assoc]
    show ([34, 36, 123] ++ Lib.repeatL [34, 36, 123] n) ++ _ = 34 :: 36 :: 123 :: nest n (125 :: 34 :: r)
    rw [hc, List.append_assoc, List.append_assoc, ← repeat_nest n (125 :: 34 :: r)]
    rfl
end Tok
end Go.Proofs.YtbpaeglmanjbfaaDoor
