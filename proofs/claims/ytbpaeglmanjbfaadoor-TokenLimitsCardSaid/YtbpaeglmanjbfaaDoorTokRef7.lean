/- The reference's reader of tokens, whole: text, one and inner, however deep. -/
import Derived.Test.YtbpaeglmanjbfaaDoorTokRef6
namespace Go.Proofs.YtbpaeglmanjbfaaDoor
open Go.RowKit
set_option linter.unusedSimpArgs false
set_option linter.unusedVariables false
namespace Tok
theorem up_ok {m n : Nat} {r : R} (h : r.up m = .ok n) : ∃ n', r = .ok n' ∧ n = m + n' := by
  cases r with
  | ok n' => simp [R.up] at h; exact ⟨n', rfl, h.symm⟩
  | err e a => simp [R.up] at h
  | trunc => simp [R.up] at h
theorem up_err {m a : Nat} {e : Int} {r : R} (h : r.up m = .err e a) : ∃ a', r = .err e a' ∧ a = m + a' := by
  cases r with
  | ok n' => simp [R.up] at h
  | err e' a' => simp [R.up] at h; exact ⟨a', by rw [h.1], h.2.symm⟩
  | trunc => simp [R.up] at h
section
variable (s : ByteArray)
theorem srcW_ok (inn : List UInt8 → R) (hi : ∀ (j n : Nat), j < s.size → inn (s.data.toList.drop j) = .ok n → 1 ≤ n ∧ j + n ≤ s.size) :
    ∀ (f j n : Nat), srcW inn f (s.data.toList.drop j) = .ok n → j + n < s.size
  | 0, _, _, h => by simp [srcW] at h
  | f + 1, j, n, h => by
    by_cases hj : j < s.size
    · by_cases h34 : s[j] = 34
      · rw [src_quote inn f s j hj h34] at h; injection h; omega
      · by_cases h3 : (s.data.toList.drop j).take 3 = [36, 36, 123]
        · rw [src_esc inn f s j hj h34 h3] at h
          obtain ⟨n', h1, h2⟩ := up_ok h
          have := srcW_ok inn hi f _ _ h1; omega
        · by_cases h2 : (s.data.toList.drop j).take 2 = [36, 123]
          · rw [src_inn inn f s j hj h34 h3 h2] at h
            cases hr : inn (s.data.toList.drop j) with
            | ok m =>
              rw [hr] at h
              obtain ⟨n', h1, h2⟩ := up_ok h
              have := srcW_ok inn hi f _ _ h1; omega
            | err e a => rw [hr] at h; simp at h
            | trunc => rw [hr] at h; simp at h
          · by_cases h92 : s[j] = 92
            · rw [src_back inn f s j hj h34 h3 h2 h92] at h
              split at h
              · simp at h
              · split at h
                · simp at h
                · obtain ⟨n', h1, h2⟩ := up_ok h
                  have := srcW_ok inn hi f _ _ h1; omega
            · rw [src_char inn f s j hj h34 h3 h2 h92] at h
              split at h
              · simp at h
              · obtain ⟨n', h1, h2⟩ := up_ok h
                have := srcW_ok inn hi f _ _ h1; omega
    · rw [drop_end s j hj, src_end] at h; simp at h
theorem innW_ok (one : List UInt8 → R) (ho : ∀ (j n : Nat), j < s.size → one (s.data.toList.drop j) = .ok n → 1 ≤ n ∧ j + n ≤ s.size) :
    ∀ (f o j n : Nat), j ≤ s.size → innW one f o (s.data.toList.drop j) = .ok n → 1 ≤ n ∧ j + n ≤ s.size
  | 0, _, _, _, _, h => by simp [innW] at h
  | f + 1, o, j, n, hjs, h => by
    by_cases hlt : j + blanksN (s.data.toList.drop j) < s.size
    · rw [inn_step one f o s j hlt] at h
      cases hr : one (s.data.toList.drop (j + blanksN (s.data.toList.drop j))) with
      | ok m =>
        rw [hr] at h
        have hm := ho _ _ hlt hr
        simp only at h
        split at h
        · split at h
          · injection h; omega
          · obtain ⟨n', h1, h2⟩ := up_ok h
            have := innW_ok one ho f _ _ _ hm.2 h1; omega
        · obtain ⟨n', h1, h2⟩ := up_ok h
          have := innW_ok one ho f _ _ _ hm.2 h1; omega
      | err e a => rw [hr] at h; simp [R.up] at h
      | trunc => rw [hr] at h; simp [R.up] at h
    · rw [inn_end one f o s j hlt] at h; simp at h
end
theorem srcW_ne (inn : List UInt8 → R) (hi : ∀ (l : List UInt8) (e : Int) (a : Nat), inn l = .err e a → e ≠ 0) : ∀ (f : Nat) (l : List UInt8) (e : Int) (a : Nat), srcW inn f l = .err e a → e ≠ 0
  | 0, _, _, _, h => by simp [srcW] at h
  | f + 1, l, e, a, h => by
    rw [srcW] at h
    split at h
    · simp at h
    split at h
    · simp at h
    split at h
    · obtain ⟨a', h1, _⟩ := up_err h; exact srcW_ne inn hi f _ _ _ h1
    split at h
    · cases hr : inn l with
      | ok m => rw [hr] at h; obtain ⟨a', h1, _⟩ := up_err h; exact srcW_ne inn hi f _ _ _ h1
      | err e' a' => rw [hr] at h; simp at h; rw [← h.1]; exact hi _ _ _ hr
      | trunc => rw [hr] at h; simp at h
    split at h
    · split at h
      · simp at h
      · split at h
        · simp at h; omega
        · obtain ⟨a', h1, _⟩ := up_err h; exact srcW_ne inn hi f _ _ _ h1
    split at h
    · simp at h; omega
    · obtain ⟨a', h1, _⟩ := up_err h; exact srcW_ne inn hi f _ _ _ h1
theorem oneW_ne (src : List UInt8 → R) (hs : ∀ (l : List UInt8) (e : Int) (a : Nat), src l = .err e a → e ≠ 0) (l : List UInt8) (e : Int) (a : Nat) (h : oneW src l = .err e a) : e ≠ 0 := by
  cases l with
  | nil => simp [oneW] at h; omega
  | cons b t =>
    simp only [oneW] at h
    split at h
    · simp at h
    split at h
    · split at h
      · simp at h; omega
      · simp at h
    split at h
    · simp at h
    split at h
    · cases hr : src t with
      | ok m => rw [hr] at h; simp at h
      | err e' a' => rw [hr] at h; simp [R.up] at h; rw [← h.1]; exact hs _ _ _ hr
      | trunc => rw [hr] at h; simp [R.up] at h
    split at h
    · simp at h; omega
    · simp at h
theorem innW_ne (one : List UInt8 → R) (ho : ∀ (l : List UInt8) (e : Int) (a : Nat), one l = .err e a → e ≠ 0) : ∀ (f o : Nat) (l : List UInt8) (e : Int) (a : Nat), innW one f o l = .err e a → e ≠ 0
  | 0, _, _, _, _, h => by simp [innW] at h
  | f + 1, o, l, e, a, h => by
    rw [innW] at h
    split at h
    · simp at h
    · cases hr : one (l.drop (blanksN l)) with
      | ok m =>
        rw [hr] at h
        simp only at h
        split at h
        · split at h
          · simp at h
          · obtain ⟨a', h1, _⟩ := up_err h; exact innW_ne one ho f _ _ _ _ h1
        · obtain ⟨a', h1, _⟩ := up_err h; exact innW_ne one ho f _ _ _ _ h1
      | err e' a' => rw [hr] at h; simp [R.up] at h; rw [← h.1]; exact ho _ _ _ hr
      | trunc => rw [hr] at h; simp [R.up] at h
/-- An interpolation, from its dollar sign on. -/
def innD (D : Nat) (l : List UInt8) : R := (innW (oneW (src D)) (l.length + 1) 0 (l.drop 2)).up 2
theorem src_zero (l : List UInt8) : src 0 l = srcW (fun _ => .err 4 0) (l.length + 1) l := rfl
theorem src_succ (D : Nat) (l : List UInt8) : src (D + 1) l = srcW (innD D) (l.length + 1) l := rfl
theorem src_ne : ∀ (D : Nat) (l : List UInt8) (e : Int) (a : Nat), src D l = .err e a → e ≠ 0
  | 0, l, e, a, h => srcW_ne _ (fun _ _ _ h => by simp at h; omega) _ _ _ _ h
  | D + 1, l, e, a, h => srcW_ne (innD D) (fun l e a h => by
      obtain ⟨a', h1, _⟩ := up_err h
      exact innW_ne _ (oneW_ne _ (src_ne D)) _ _ _ _ _ h1) _ _ _ _ h
theorem innD_ne (D : Nat) (l : List UInt8) (e : Int) (a : Nat) (h : innD D l = .err e a) : e ≠ 0 := by
  obtain ⟨a', h1, _⟩ := up_err h
  exact innW_ne _ (oneW_ne _ (src_ne D)) _ _ _ _ _ h1
theorem inn_of_src (D : Nat) (s : ByteArray) (ih : ∀ (j n : Nat), src D (s.data.toList.drop j) = .ok n → j + n < s.size) (j n : Nat) (hj : j < s.size) (h : innD D (s.data.toList.drop j) = .ok n) : 1 ≤ n ∧ j + n ≤ s.size := by
  obtain ⟨n', h1, h2⟩ := up_ok h
  rw [drop_drop'] at h1
  by_cases hj2 : j + 2 ≤ s.size
  · have := innW_ok s _ (fun j n hj h => one_len (src D) s j hj (fun j n _ h => ih j n h) n h) _ _ _ _ hj2 h1
    omega
  · rw [drop_end s (j + 2) (by omega)] at h1
    simp [innW, blanksN, spanN] at h1
theorem src_fit (s : ByteArray) : ∀ (D j n : Nat), src D (s.data.toList.drop j) = .ok n → j + n < s.size
  | 0, j, n, h => srcW_ok s _ (fun _ _ _ h => by simp at h) _ _ _ h
  | D + 1, j, n, h => srcW_ok s (innD D) (inn_of_src D s (src_fit s D)) _ _ _ h
theorem innD_fit (D : Nat) (s : ByteArray) (j n : Nat) (hj : j < s.size) (h : innD D (s.data.toList.drop j) = .ok n) : 1 ≤ n ∧ j + n ≤ s.size := inn_of_src D s (src_fit s D) j n hj h
theorem one_fit (D : Nat) (s : ByteArray) (j n : Nat) (hj : j < s.size) (h : oneW (src D) (s.data.toList.drop j) = .ok n) : 1 ≤ n ∧ j + n ≤ s.size := one_len (src D) s j hj (fun j n _ h => src_fit s D j n h) n h
end Tok
theorem readEnd_up (k q : Int) (m : Nat) (r : Tok.R) : readEnd (k + m) q r = readEnd k q (r.up m) := by
  cases r with
  | ok n => simp [readEnd, Tok.R.up]; omega
  | err e a => simp [readEnd, Tok.R.up, diagV]; omega
  | trunc => rfl
theorem refText_any (s : ByteArray) (hs : s.size ≤ 1000000) : ∀ (D d : Nat) (q : Int) (k : Nat) (w : World), d + D = 32 → k ≤ s.size →
    Calls Tryd.prog 57 #[.string s, .int .i64 k, .int .i64 d, .int .i64 q] w fun e w' => e = readEnd k q (Tok.src D (s.data.toList.drop k)) ∧ Below w.heap.size w w'
  | 0, d, q, k, w, hd, hk => by
    have h := refText_of (fun _ => .err 4 0) d q s hs (by omega) (fun _ => rfl) (fun h => by omega) (fun _ _ _ h => by simp at h; omega) (fun _ _ _ h => by simp at h) k hk w
    rw [Tok.src_zero, List.length_drop, show s.data.toList.length = s.size by simp]
    exact h
  | D + 1, d, q, k, w, hd, hk => by
    have h := refText_of (Tok.innD D) d q s hs (by omega) (fun h => by omega) (fun _ j w hj => by
      have hi := refInner_of (Tok.oneW (Tok.src D)) (d + 1) q s hs
        (fun j w hj => refOne_of (Tok.src D) (d + 1) s hs (by omega) (fun j q w hj => refText_any s hs D (d + 1) q j w (by omega) hj) (fun j n _ h => Tok.src_fit s D j n h) (Tok.src_ne D) j q q (by rw [if_neg (by omega)]) hj w)
        (fun j n hj h => Tok.one_fit D s j n hj h) (fun j hj b hb h => Tok.one_brace (Tok.src D) s j hj b hb h) (Tok.oneW_ne _ (Tok.src_ne D))
        (j + 2) ((s.data.toList.drop j).length + 1) hj (by rw [List.length_drop, show s.data.toList.length = s.size by simp]; omega) w
      rw [show ((j + 2 : Nat) : Int) = (j : Int) + (2 : Nat) by omega, readEnd_up] at hi
      rw [show ((d + 1 : Nat) : Int) = (d : Int) + 1 by omega] at hi
      unfold Tok.innD
      rw [drop_drop']
      exact hi) (Tok.innD_ne D) (Tok.innD_fit D s) k hk w
    rw [Tok.src_succ, List.length_drop, show s.data.toList.length = s.size by simp]
    exact h
theorem refOne_any (s : ByteArray) (hs : s.size ≤ 1000000) (k : Nat) (hk : k < s.size) (q : Int) (w : World) :
    Calls Tryd.prog 31 #[.string s, .int .i64 k, .int .i64 0, .int .i64 q] w fun e w' => e = oneEnd (s.data.toList.drop k) k k (Tok.one 32 (s.data.toList.drop k)) ∧ Below w.heap.size w w' :=
  refOne_of (Tok.src 32) 0 s hs (by omega) (fun j q w hj => refText_any s hs 32 0 q j w (by omega) hj) (fun j n _ h => Tok.src_fit s 32 j n h) (Tok.src_ne 32) k q k (by rw [if_pos rfl]) hk w
end Go.Proofs.YtbpaeglmanjbfaaDoor
