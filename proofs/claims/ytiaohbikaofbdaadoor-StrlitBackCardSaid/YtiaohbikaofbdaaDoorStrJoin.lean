/- StrlitJoins: the plain laws. -/
import Derived.Test.YtiaohbikaofbdaaDoorStrUnq2
namespace Go.Proofs.YtiaohbikaofbdaaDoor
namespace Str
open Go.Lib
theorem getD_app (a b : List UInt8) (i : Nat) (h : i < a.length) : (a ++ b).getD i 0 = a.getD i 0 := by
  simp [List.getD, List.getElem?_append_left h]
set_option maxRecDepth 100000 in
theorem dec_append (a b : List UInt8) (h : a ≠ []) (hg : ¬ Bad (decodeL a)) : decodeL (a ++ b) = decodeL a := by
  have h0 : 0 < a.length := List.length_pos_iff.2 h
  have e0 := getD_app a b 0 h0
  have hl : (a ++ b).length = a.length + b.length := List.length_append
  rw [decodeL_N] at hg
  rw [decodeL_N, decodeL_N, e0, hl]
  rcases decodeN_shape a.length (a.getD 0 0).toNat (a.getD 1 0).toNat (a.getD 2 0).toNat (a.getD 3 0).toNat with ⟨c, e⟩ | ⟨c1, c2, c3, cv, e⟩ | ⟨c1, c2, c3, c4, cv, cs, e⟩ | ⟨c1, c2, c3, c4, c5, cv, cw, e⟩ | e
  · rw [e]; unfold decodeN; rw [if_pos c]
  · rw [e, getD_app a b 1 c2]
    generalize (a.getD 0 0).toNat = b0 at *
    generalize (a.getD 1 0).toNat = b1 at *
    unfold decodeN
    repeat' split
    all_goals first
      | rfl
      | (exfalso; omega)
  · rw [e, getD_app a b 1 (by omega), getD_app a b 2 c2]
    generalize (a.getD 0 0).toNat = b0 at *
    generalize (a.getD 1 0).toNat = b1 at *
    generalize (a.getD 2 0).toNat = b2 at *
    unfold decodeN
    repeat' split
    all_goals first
      | rfl
      | (exfalso; omega)
  · rw [e, getD_app a b 1 (by omega), getD_app a b 2 (by omega), getD_app a b 3 c2]
    generalize (a.getD 0 0).toNat = b0 at *
    generalize (a.getD 1 0).toNat = b1 at *
    generalize (a.getD 2 0).toNat = b2 at *
    generalize (a.getD 3 0).toNat = b3 at *
    unfold decodeN
    repeat' split
    all_goals first
      | rfl
      | (exfalso; omega)
  · exact absurd (by rw [e]; exact ⟨rfl, rfl⟩) hg
theorem valid_step (l : List UInt8) (h : l ≠ []) : validD l = if Bad (decodeL l) then false else validD (l.drop (decodeL l).2) := by
  rw [validD_step _ h]; rfl
theorem valid_append : ∀ (n : Nat) (a b : List UInt8), a.length ≤ n → validD a = true → validD (a ++ b) = validD b
  | _, [], _, _, _ => rfl
  | 0, _ :: _, _, hn, _ => by simp at hn
  | n + 1, x :: a, b, hn, hv => by
    have hne : x :: a ≠ [] := by simp
    have hw := decodeL_le (x :: a) hne
    rw [valid_step _ hne] at hv
    by_cases hb : Bad (decodeL (x :: a))
    · rw [if_pos hb] at hv; simp at hv
    · rw [if_neg hb] at hv
      have hd := dec_append (x :: a) b hne hb
      have hne2 : (x :: a) ++ b ≠ [] := by simp
      rw [valid_step _ hne2, hd, if_neg hb, List.drop_append_of_le_length hw]
      refine valid_append n _ b ?_ hv
      have h1 : 1 ≤ (decodeL (x :: a)).2 := by
        have := dec_width ⟨(x :: a).toArray⟩ 0 (show 0 < (x :: a).toArray.size by simp)
        rw [← decL] at this
        exact this.1
      rw [List.length_drop]; omega
/-- The number of code points of a list, with fuel. -/
def rc : Nat → List UInt8 → Nat
  | 0, _ => 0
  | f + 1, l => if l = [] then 0 else 1 + rc f (l.drop (decodeL l).2)
theorem rc_nil (f : Nat) : rc f [] = 0 := by cases f <;> simp [rc]
theorem dec_pos (l : List UInt8) (h : l ≠ []) : 1 ≤ (decodeL l).2 := by
  have := dec_width ⟨l.toArray⟩ 0 (show 0 < l.toArray.size by simpa using List.length_pos_iff.2 h)
  rw [← decL] at this
  exact this.1
theorem rc_of (s : ByteArray) : ∀ (f k : Nat), runeCountFrom s f k = rc f (s.data.toList.drop k)
  | 0, _ => rfl
  | f + 1, k => by
    by_cases h : k < s.size
    · rw [rc_step s f k h, rc, if_neg (by intro h2; have := congrArg List.length h2; simp at this; omega), rc_of s f, decL, List.drop_drop]
    · rw [runeCountFrom, if_neg h, List.drop_of_length_le (by simp; omega), rc_nil]
theorem rc_fuel : ∀ (f g : Nat) (l : List UInt8), l.length ≤ f → l.length ≤ g → rc f l = rc g l
  | f, g, [], _, _ => by rw [rc_nil, rc_nil]
  | 0, _, _ :: _, h, _ => by simp at h
  | _, 0, _ :: _, _, h => by simp at h
  | f + 1, g + 1, x :: l, h, h2 => by
    have hp := dec_pos (x :: l) (by simp)
    rw [rc, rc, if_neg (by simp), if_neg (by simp), rc_fuel f g _ (by rw [List.length_drop]; omega) (by rw [List.length_drop]; omega)]
theorem rc_append : ∀ (n : Nat) (a b : List UInt8), a.length ≤ n → validD a = true → rc (a.length + b.length) (a ++ b) = rc a.length a + rc b.length b
  | _, [], b, _, _ => by simp [rc_nil]
  | 0, _ :: _, _, hn, _ => by simp at hn
  | n + 1, x :: a, b, hn, hv => by
    have hne : x :: a ≠ [] := by simp
    have hw := decodeL_le (x :: a) hne
    have hp := dec_pos (x :: a) hne
    rw [valid_step _ hne] at hv
    by_cases hb : Bad (decodeL (x :: a))
    · rw [if_pos hb] at hv; simp at hv
    · rw [if_neg hb] at hv
      have hd := dec_append (x :: a) b hne hb
      have hne2 : (x :: a) ++ b ≠ [] := by simp
      have ih := rc_append n ((x :: a).drop (decodeL (x :: a)).2) b (by rw [List.length_drop]; omega) hv
      have hl : (x :: a).length + b.length = (a.length + b.length) + 1 := by simp; omega
      rw [hl, rc, if_neg hne2, hd, List.drop_append_of_le_length hw]
      rw [show (x :: a).length = a.length + 1 from rfl, rc, if_neg hne]
      rw [rc_fuel (a.length + b.length) (((x :: a).drop (decodeL (x :: a)).2).length + b.length) _ (by simp only [List.length_append, List.length_drop, List.length_cons]; omega) (by simp), ih]
      rw [rc_fuel a.length (((x :: a).drop (decodeL (x :: a)).2).length) _ (by simp only [List.length_drop, List.length_cons]; omega) (Nat.le_refl _)]
      omega
theorem runeCount_append (a b : ByteArray) (h : validD a.data.toList = true) : runeCount (a ++ b) = runeCount a + runeCount b := by
  unfold runeCount
  rw [rc_of, rc_of, rc_of]
  have e : (a ++ b).data.toList = a.data.toList ++ b.data.toList := by simp
  have e1 : (a ++ b).size = a.data.toList.length + b.data.toList.length := by simp
  have e2 : a.size = a.data.toList.length := by simp
  have e3 : b.size = b.data.toList.length := by simp
  simp only [List.drop_zero]
  rw [e, e1, e2, e3]
  exact rc_append _ _ _ (Nat.le_refl _) h
end Str
end Go.Proofs.YtiaohbikaofbdaaDoor
