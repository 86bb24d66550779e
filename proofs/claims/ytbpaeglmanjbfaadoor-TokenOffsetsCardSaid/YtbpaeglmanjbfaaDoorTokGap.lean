/- The walk of the law's gap. -/
import Derived.Test.YtbpaeglmanjbfaaDoorTokAwake
import Derived.Test.YtbpaeglmanjbfaaDoorTokChain
namespace Go.Proofs.YtbpaeglmanjbfaaDoor
open Go.RowKit
set_option linter.unusedSimpArgs false
set_option linter.unusedVariables false
namespace Tok
/-- Blanks, and perhaps a comment at the end. -/
def gapG : List UInt8 → Bool
  | [] => true
  | b :: l => if b = 35 then !decide (0 ≤ Lib.indexByte (b :: l) 10) else if isBlank b then gapG l else false
theorem gap_blank (b : UInt8) (l : List UInt8) (h : isBlank b = true) : gapG (b :: l) = gapG l := by
  have : b ≠ 35 := by rintro rfl; exact absurd h (by decide)
  simp [gapG, this, h]
theorem gap_comment (l : List UInt8) : gapG (l.take (commentN l)) = true := by
  unfold commentN
  split
  · next h =>
    have key : ∀ l : List UInt8, Lib.indexByte (l.take (spanN (· != 10) l)) 10 = -1 := by
      intro l
      induction l with
      | nil => rfl
      | cons b l ih =>
        by_cases hb : b = 10
        · subst hb; rfl
        · have e : spanN (· != 10) (b :: l) = spanN (· != 10) l + 1 := by simp [spanN, hb]
          rw [e, List.take_succ_cons]
          simp [Lib.indexByte, hb, ih]
    cases l with
    | nil => simp at h
    | cons b l =>
      obtain rfl : b = 35 := by simpa using h
      have e : spanN (· != 10) (35 :: l) = spanN (· != 10) l + 1 := by simp [spanN]
      have k := key (35 :: l)
      rw [e, List.take_succ_cons] at k ⊢
      simp only [gapG, if_true]
      rw [k]; rfl
  · rfl
theorem gap_skip : ∀ l : List UInt8, gapG (l.take (skipN l)) = true
  | [] => rfl
  | b :: l => by
    cases hb : isBlank b with
    | true =>
      have e : skipN (b :: l) = skipN l + 1 := by
        unfold skipN blanksN
        simp only [spanN, hb, if_true, List.drop_succ_cons]; omega
      rw [e, List.take_succ_cons, gap_blank _ _ hb]
      exact gap_skip l
    | false =>
      have e : skipN (b :: l) = commentN (b :: l) := by
        unfold skipN blanksN
        simp [spanN, hb]
      rw [e]
      exact gap_comment (b :: l)
end Tok
set_option maxHeartbeats 2000000 in
theorem gap_any (s : ByteArray) (w : World) (hs : s.size ≤ 1000000) :
    Calls Tryd.prog 20 #[.string s] w fun e w' => e = .returned (.bool (Tok.gapG s.data.toList)) ∧ w' = w := by
  obtain ⟨R, hR⟩ : ∃ R, Tok.gapG s.data.toList = R := ⟨_, rfl⟩
  rw [hR]
  have HR := kept hR
  clear hR
  go_enter Tryd.func20, Tryd.ntmps20
  go_wp2
  go_loop [3] (fun i => ∃ j : Nat, j ≤ s.size ∧ i = .int .i64 j ∧ Tok.gapG (s.data.toList.drop j) = R) (fun i => s.size - (intOf i).toNat)
  case atStart => exact ⟨0, by omega, rfl, by rw [List.drop_zero]; exact HR.out⟩
  case round =>
    obtain ⟨j, hj, rfl, hg⟩ := hrel
    have Hg := kept hg
    clear hg
    by_cases hlt : j < s.size
    · have hlt' : (j : Int) < s.size := by omega
      have hj2 : (j : Int) ≤ s.size := by omega
      have hc := Tok.get_cons s j hlt
      obtain ⟨u, huu, hu0, hu1⟩ := byte_int s[j]
      by_cases h35 : s[j] = 35
      · have Hx := kept (show (!decide (0 ≤ Lib.indexByte (s.data.toList.drop j) 10)) = R by
          have h := Hg.out
          rw [hc, Tok.gapG, if_pos h35, ← hc] at h
          exact h)
        obtain rfl : u = 35 := by rw [← huu, h35]; rfl
        have Hc := kept (fun w => Tryd.strings_Contains_one (s.extract j s.size) 10 w)
        rw [Lib.extract_to_end] at Hc
        generalize decide (0 ≤ Lib.indexByte (s.data.toList.drop j) 10) = z at *
        clear hc h35
        go_wp2_with fail
        (with_reducible refine (Hc.out _).mono ?_); rintro e w1 ⟨rfl, rfl⟩
        go_wp2
        go_ret
        exact ⟨ret_bool Hx.out, rfl⟩
      · have g35 : (u == 35) = false := by have := byte_neq s[j] 35 (by decide) h35; rwa [huu] at this
        have hbl := Tok.isBlank_int s[j]
        rw [huu] at hbl
        by_cases hb : u = 32 ∨ u = 9 ∨ u = 13
        · have Hx := kept (show Tok.gapG (s.data.toList.drop (j + 1)) = R by
            have h := Hg.out
            rw [hc, Tok.gap_blank _ _ (by rw [hbl]; simpa using hb)] at h
            exact h)
          clear hc h35 hbl
          rcases hb with rfl | rfl | rfl
          all_goals
            go_wp2
            exact ⟨⟨j + 1, by omega, by go_num, Hx.out⟩, by simp [intOf]; omega⟩
        · have Hx := kept (show false = R by
            have h := Hg.out
            rw [hc, Tok.gapG, if_neg h35, hbl, decide_eq_false hb] at h
            simpa using h)
          have h1 : (u != 32) = true := by simp; intro h; exact hb (.inl h)
          have h2 : (u != 9) = true := by simp; intro h; exact hb (.inr (.inl h))
          have h3 : (u != 13) = true := by simp; intro h; exact hb (.inr (.inr h))
          clear hc h35 hbl hb
          go_wp2
          go_ret
          exact ⟨ret_bool Hx.out, rfl⟩
    · have Hx := kept (show true = R by
        have h := Hg.out
        rw [Tok.drop_end s j hlt] at h
        exact h)
      have hlt' : ¬ (j : Int) < s.size := by omega
      go_wp2
      go_ret
      exact ⟨ret_bool Hx.out, rfl⟩
end Go.Proofs.YtbpaeglmanjbfaaDoor
