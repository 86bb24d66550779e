/- What Scan's success and failure say of the text. No program in sight. -/
import Derived.Test.YtbpaeglmanjbfaaDoorTokLoc3
import Derived.Test.YtbpaeglmanjbfaaDoorTokList
namespace Go.Proofs.YtbpaeglmanjbfaaDoor
set_option linter.unusedSimpArgs false
set_option linter.unusedVariables false
namespace Tok
open Go.Lib
theorem one_len' (D : Nat) (l : List UInt8) (n : Nat) (h : one D l = .ok n) : 1 ≤ n ∧ n ≤ l.length := by
  have h1 := oneW_pos (src D) l n h
  cases l with
  | nil => simp [one, oneW] at h
  | cons b l =>
    have := one_fit D ⟨(b :: l).toArray⟩ 0 n (by simp [ByteArray.size]) h
    refine ⟨this.1, ?_⟩
    have h2 := this.2
    simp [ByteArray.size] at h2
    simpa using h2
theorem innE_len (D : Nat) (l : List UInt8) (n : Nat) (h : innE D l = .ok n) (hl : l ≠ []) : n ≤ l.length := by
  cases l with
  | nil => exact absurd rfl hl
  | cons b l =>
    have := innE_fit D ⟨(b :: l).toArray⟩ 0 n (by simp [ByteArray.size]) h
    have h2 := this.2
    simp [ByteArray.size] at h2
    simpa using h2
theorem srcW_err (inn : List UInt8 → R) (hi : ∀ l e a, l.take 2 = [36, 123] → inn l = .err e a → a ≤ l.length) (hn : ∀ l n, inn l = .ok n → l ≠ [] → n ≤ l.length) :
    ∀ (f : Nat) (l : List UInt8) (e : Int) (a : Nat), srcW inn f l = .err e a → a ≤ l.length
  | 0, l, e, a, h => by simp [srcW] at h
  | f + 1, l, e, a, h => by
    have dr : ∀ m, m ≤ l.length → (srcW inn f (l.drop m)).up m = .err e a → a ≤ l.length := fun m hm h1 => by
      obtain ⟨a', h2, h3⟩ := up_err h1
      have := srcW_err inn hi hn f _ _ _ h2
      rw [List.length_drop] at this; omega
    rw [srcW] at h
    split at h
    · cases h
    · next hne =>
      split at h
      · cases h
      · split at h
        · next h3 =>
          have := congrArg List.length h3
          rw [List.length_take] at this
          exact dr 3 (by simp at this; omega) h
        · split at h
          · next h2 =>
            split at h
            · next m hm => exact dr m (hn _ _ hm hne) h
            · exact hi _ _ _ h2 h
          · split at h
            · split at h
              · cases h
              · next hd =>
                have hl1 : 1 ≤ l.length := by cases l <;> simp_all
                split at h
                · injection h with _ h; omega
                · have hc := charN_le (l.drop 1)
                  rw [List.length_drop] at hc
                  exact dr _ (by omega) h
            · split at h
              · injection h with _ h; omega
              · exact dr _ (charN_le l) h
theorem oneW_err (src : List UInt8 → R) (hs : ∀ l e a, src l = .err e a → a ≤ l.length) (l : List UInt8) (e : Int) (a : Nat) (h : oneW src l = .err e a) : a ≤ l.length := by
  cases l with
  | nil => simp [oneW] at h; omega
  | cons b l =>
    simp only [oneW] at h
    split at h
    · cases h
    · split at h
      · split at h
        · injection h with _ h; omega
        · cases h
      · split at h
        · cases h
        · split at h
          · split at h
            · cases h
            · obtain ⟨a', h1, h2⟩ := up_err h
              have := hs _ _ _ h1
              simp; omega
          · split at h
            · injection h with _ h; omega
            · cases h
theorem innW_err (one : List UInt8 → R) (ho : ∀ l e a, one l = .err e a → a ≤ l.length) (hn : ∀ l n, one l = .ok n → n ≤ l.length) :
    ∀ (f o : Nat) (l : List UInt8) (e : Int) (a : Nat), innW one f o l = .err e a → a ≤ l.length
  | 0, o, l, e, a, h => by simp [innW] at h
  | f + 1, o, l, e, a, h => by
    have hb : blanksN l ≤ l.length := spanN_le _ _
    rw [innW] at h
    split at h
    · cases h
    · cases hr : one (List.drop (blanksN l) l) with
      | ok m =>
        rw [hr] at h
        have hm := hn _ _ hr
        rw [List.length_drop] at hm
        have dr : ∀ o', (innW one f o' (l.drop (blanksN l + m))).up (blanksN l + m) = .err e a → a ≤ l.length := fun o' h1 => by
          obtain ⟨a', h2, h3⟩ := up_err h1
          have := innW_err one ho hn f _ _ _ _ h2
          rw [List.length_drop] at this; omega
        simp only at h
        split at h
        · split at h
          · cases h
          · exact dr _ h
        · exact dr _ h
      | err e' a' =>
        rw [hr] at h
        obtain ⟨a'', h1, h2⟩ := up_err h
        injection h1 with _ h1
        have := ho _ _ _ hr
        rw [List.length_drop] at this; omega
      | trunc => rw [hr] at h; simp [R.up] at h
theorem src_err : ∀ (D : Nat) (l : List UInt8) (e : Int) (a : Nat), src D l = .err e a → a ≤ l.length
  | 0, l, e, a, h => by
    rw [src_innE] at h
    exact srcW_err (innE 0) (fun l e a _ h => by simp [innE] at h; omega) (fun l n h hl => innE_len 0 l n h hl) _ _ _ _ h
  | D + 1, l, e, a, h => by
    rw [src_innE] at h
    refine srcW_err (innE (D + 1)) (fun l e a h2 h => ?_) (fun l n h hl => innE_len (D + 1) l n h hl) _ _ _ _ h
    obtain ⟨a', h3, h4⟩ := up_err h
    have := innW_err (oneW (src D)) (oneW_err (src D) (src_err D)) (fun l n h => (one_len' D l n h).2) _ _ _ _ _ h3
    have hl := congrArg List.length h2
    rw [List.length_take] at hl
    rw [List.length_drop] at this
    simp at hl
    omega
theorem one_err (D : Nat) (l : List UInt8) (e : Int) (a : Nat) (h : one D l = .err e a) : a ≤ l.length := oneW_err (src D) (src_err D) l e a h
theorem skipN_le (l : List UInt8) : skipN l ≤ l.length := by
  have h1 : blanksN l ≤ l.length := spanN_le _ _
  unfold skipN
  have h2 : commentN (l.drop (blanksN l)) ≤ (l.drop (blanksN l)).length := by
    unfold commentN
    split
    · exact spanN_le _ _
    · omega
  rw [List.length_drop] at h2; omega
/-- The tokens of a text from a place on, the end with them. -/
inductive Chain (L : List UInt8) : Nat → List T → Prop
  | fin (j k : Nat) (hk : j + skipN (L.drop j) = k) (he : L.drop k = []) : Chain L j [(6, [], k)]
  | step (j k n : Nat) (rest : List T) (hk : j + skipN (L.drop j) = k) (hlt : k < L.length) (hb : beginsB (L.drop k) = true) (ho : one 32 (L.drop k) = .ok n) (hr : Chain L (k + n) rest) :
      Chain L j ((kindL (L.drop k), textL (L.drop k) n, k) :: rest)
theorem scanF_chain (L : List UInt8) : ∀ (f j : Nat) (acc : List T), L.length - j < f → j ≤ L.length → acc.length ≤ 16384 →
    ((scanF f (L.drop j) j acc).e ≠ 0 ∧ (scanF f (L.drop j) j acc).toks = [] ∧ (scanF f (L.drop j) j acc).at' ≤ L.length) ∨
    ((scanF f (L.drop j) j acc).e = 0 ∧ (scanF f (L.drop j) j acc).at' = 0 ∧ ∃ suf, (scanF f (L.drop j) j acc).toks = acc ++ suf ∧ Chain L j suf ∧ acc.length + suf.length ≤ 16384)
  | 0, j, acc, hf, hj, ha => by omega
  | f + 1, j, acc, hf, hj, ha => by
    have hs := skipN_le (L.drop j)
    rw [List.length_drop] at hs
    rw [scanF]
    split
    · left; exact ⟨by simp, rfl, by simp; omega⟩
    · next hb =>
      split
      · left; exact ⟨by simp, rfl, by simp; omega⟩
      · next hl =>
        have hdd : List.drop (skipN (L.drop j)) (L.drop j) = L.drop (j + skipN (L.drop j)) := List.drop_drop
        split
        · next he =>
          right
          refine ⟨rfl, rfl, _, rfl, Chain.fin j _ rfl (by rw [← hdd]; exact he), by simp; omega⟩
        · next he =>
          rw [hdd] at hb he ⊢
          have hlt : j + skipN (L.drop j) < L.length := by
            rcases Nat.lt_or_ge (j + skipN (L.drop j)) L.length with h | h
            · exact h
            · exact absurd (List.drop_of_length_le h) he
          have hbb : beginsB (L.drop (j + skipN (L.drop j))) = true := by
            cases hx : beginsB (L.drop (j + skipN (L.drop j))) with
            | true => rfl
            | false => exact absurd ⟨he, hx⟩ hb
          cases ho : one 32 (L.drop (j + skipN (L.drop j))) with
          | ok n =>
            have hn := one_len' 32 _ _ ho
            rw [List.length_drop] at hn
            have e1 : List.drop (skipN (L.drop j) + n) (L.drop j) = L.drop (j + skipN (L.drop j) + n) := by rw [List.drop_drop, Nat.add_assoc]
            simp only
            rw [e1]
            rcases scanF_chain L f (j + skipN (L.drop j) + n) (acc ++ [(kindL (L.drop (j + skipN (L.drop j))), textL (L.drop (j + skipN (L.drop j))) n, j + skipN (L.drop j))]) (by omega) (by omega) (by simp; omega) with h | ⟨h1, h2, suf, h3, h4, h5⟩
            · exact .inl h
            · right
              refine ⟨h1, h2, _ :: suf, by rw [h3, List.append_assoc]; rfl, Chain.step j _ n suf rfl hlt hbb ho h4, by simp at h5 ⊢; omega⟩
          | err e a =>
            left
            have ha := one_err 32 _ _ _ ho
            rw [List.length_drop] at ha
            exact ⟨oneW_ne (src 32) (src_ne 32) _ _ _ ho, rfl, by simp; omega⟩
          | trunc => left; exact ⟨by simp, rfl, by simp; omega⟩
/-- Either Scan fails, with an offset within the text, or it returns the text's tokens. -/
theorem scan_chain (L : List UInt8) : ((scan L).e ≠ 0 ∧ (scan L).toks = [] ∧ (scan L).at' ≤ L.length) ∨ ((scan L).e = 0 ∧ (scan L).at' = 0 ∧ Chain L 0 (scan L).toks ∧ (scan L).toks.length ≤ 16384) := by
  unfold scan
  split
  · left; exact ⟨by simp, rfl, by simp⟩
  · have := scanF_chain L (L.length + 1) 0 [] (by omega) (by omega) (by simp)
    rw [List.drop_zero] at this
    rcases this with h | ⟨h1, h2, suf, h3, h4, h5⟩
    · exact .inl h
    · right
      simp at h3
      refine ⟨h1, h2, by rw [h3]; exact h4, by rw [h3]; simpa using h5⟩
/-- .. and so the other way round. -/
theorem chain_scanF (L : List UInt8) : ∀ (suf : List T) (j : Nat), Chain L j suf → ∀ (f : Nat) (acc : List T), L.length - j < f → j ≤ L.length → acc.length + suf.length ≤ 16384 → scanF f (L.drop j) j acc = ⟨acc ++ suf, 0, 0⟩ := by
  intro suf j h
  induction h with
  | fin j k hk he =>
    intro f acc hf hj ha
    obtain ⟨g, rfl⟩ : ∃ g, f = g + 1 := ⟨f - 1, by omega⟩
    have hdd : List.drop (skipN (L.drop j)) (L.drop j) = L.drop (j + skipN (L.drop j)) := List.drop_drop
    simp at ha
    rw [scanF, hdd, hk, he, if_neg (by simp), if_neg (by omega), if_pos rfl]
  | step j k n rest hk hlt hb ho hr ih =>
    intro f acc hf hj ha
    obtain ⟨g, rfl⟩ : ∃ g, f = g + 1 := ⟨f - 1, by omega⟩
    have hdd : List.drop (skipN (L.drop j)) (L.drop j) = L.drop (j + skipN (L.drop j)) := List.drop_drop
    have hn := one_len' 32 _ _ ho
    rw [List.length_drop] at hn
    simp at ha
    have hne : L.drop k ≠ [] := by intro h; have := congrArg List.length h; simp at this; omega
    rw [scanF, hdd, hk, if_neg (by rw [hb]; simp), if_neg (by omega), if_neg hne, ho]
    have e1 : List.drop (skipN (L.drop j) + n) (L.drop j) = L.drop (k + n) := by rw [List.drop_drop, ← Nat.add_assoc, hk]
    simp only
    rw [e1, ih g _ (by omega) (by omega) (by simp; omega)]
    simp
theorem chain_scan (L : List UInt8) (toks : List T) (h : Chain L 0 toks) (hl : L.length ≤ 65536) (ht : toks.length ≤ 16384) : scan L = ⟨toks, 0, 0⟩ := by
  unfold scan
  rw [if_neg (by omega)]
  have := chain_scanF L toks 0 h (L.length + 1) [] (by omega) (by omega) (by simpa using ht)
  rw [List.drop_zero] at this
  simpa using this
end Tok
end Go.Proofs.YtbpaeglmanjbfaaDoor
