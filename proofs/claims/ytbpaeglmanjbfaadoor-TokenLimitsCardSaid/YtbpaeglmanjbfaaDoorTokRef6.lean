/- The walk of provisionref13.inner. -/
import Derived.Test.YtbpaeglmanjbfaaDoorTokRef5
namespace Go.Proofs.YtbpaeglmanjbfaaDoor
open Go.RowKit
set_option linter.unusedSimpArgs false
set_option linter.unusedVariables false
namespace Tok
section
variable (src : List UInt8 → R) (s : ByteArray) (j : Nat) (hj : j < s.size)
include hj
theorem one_len (hok : ∀ (j n : Nat), j ≤ s.size → src (s.data.toList.drop j) = .ok n → j + n < s.size) (n : Nat) (h : oneW src (s.data.toList.drop j) = .ok n) : 1 ≤ n ∧ j + n ≤ s.size := by
  by_cases h10 : s[j] = 10
  · rw [one_nl src s j hj h10] at h; injection h; omega
  · rcases bool_or (isLetter s[j]) with hl | hl
    · rw [one_letter src s j hj h10 hl] at h
      split at h
      · cases h
      · injection h with h
        have hle := spanN_le (fun c => isLetter c || isDigit c) (s.data.toList.drop j)
        rw [List.length_drop, show s.data.toList.length = s.size by simp] at hle
        have : 1 ≤ spanN (fun c => isLetter c || isDigit c) (s.data.toList.drop j) := by
          rw [get_cons s j hj, spanN, hl]; simp
        omega
    · rcases bool_or (isDigit s[j]) with hd | hd
      · rw [one_digit src s j hj h10 hl hd] at h
        injection h with h
        have hle := spanN_le isDigit (s.data.toList.drop j)
        rw [List.length_drop, show s.data.toList.length = s.size by simp] at hle
        have : 1 ≤ spanN isDigit (s.data.toList.drop j) := by
          rw [get_cons s j hj, spanN, hd]; simp
        omega
      · by_cases h34 : s[j] = 34
        · rw [one_string src s j hj h34] at h
          cases hr : src (s.data.toList.drop (j + 1)) with
          | ok m =>
            rw [hr] at h
            have := hok (j + 1) m (by omega) hr
            simp only [R.ok.injEq] at h
            omega
          | err e a => rw [hr] at h; simp [R.up] at h
          | trunc => rw [hr] at h; simp [R.up] at h
        · rw [one_sign src s j hj h10 hl hd h34] at h
          have := sign_le s j hj
          split at h
          · cases h
          · injection h; omega
theorem one_brace (b : UInt8) (hb : b = 125 ∨ b = 123) (hs : s[j] = b) : oneW src (s.data.toList.drop j) = .ok 1 ∧ kindL (s.data.toList.drop j) = 4 ∧ textL (s.data.toList.drop j) 1 = [b] := by
  have h10 : s[j] ≠ 10 := by rw [hs]; rcases hb with rfl | rfl <;> decide
  have hl : isLetter s[j] = false := by rw [hs]; rcases hb with rfl | rfl <;> decide
  have hd : isDigit s[j] = false := by rw [hs]; rcases hb with rfl | rfl <;> decide
  have h34 : s[j] ≠ 34 := by rw [hs]; rcases hb with rfl | rfl <;> decide
  have hsg : signN (s.data.toList.drop j) = 1 := by
    rw [sign_one s j hj (fun h => by rw [hs]; rcases hb with rfl | rfl <;> rfl), hs]
    rcases hb with rfl | rfl <;> rfl
  refine ⟨?_, ?_, ?_⟩
  · rw [one_sign src s j hj h10 hl hd h34, hsg]; rfl
  · rw [kindL_at s j hj]; unfold kindOf; rw [if_neg h10, hl, if_neg (by simp), hd, if_neg (by simp), if_neg h34]
  · rw [textL_no s j hj 1 h34, get_cons s j hj, hs]; rfl
theorem text_other (n : Nat) (b : UInt8) (hs : s[j] ≠ b) (hk : kindL (s.data.toList.drop j) = 4) : textL (s.data.toList.drop j) n ≠ [b] := by
  have h34 : s[j] ≠ 34 := by
    intro h; rw [kindL_at s j hj, h] at hk; exact absurd hk (by decide)
  rw [textL_no s j hj n h34, get_cons s j hj]
  cases n with
  | zero => simp
  | succ n => intro h; simp at h; exact hs h.1
end
section
variable (one : List UInt8 → R) (f o : Nat) (s : ByteArray) (j : Nat)
theorem inn_end (h : ¬ j + blanksN (s.data.toList.drop j) < s.size) : innW one (f + 1) o (s.data.toList.drop j) = .trunc := by
  rw [innW, drop_drop', if_pos (drop_end s _ h)]
theorem inn_step (h : j + blanksN (s.data.toList.drop j) < s.size) : innW one (f + 1) o (s.data.toList.drop j) =
    match one (s.data.toList.drop (j + blanksN (s.data.toList.drop j))) with
      | .ok n =>
        if s[j + blanksN (s.data.toList.drop j)] = 125 then
          (if o = 0 then .ok (blanksN (s.data.toList.drop j) + n) else (innW one f (o - 1) (s.data.toList.drop (j + blanksN (s.data.toList.drop j) + n))).up (blanksN (s.data.toList.drop j) + n))
        else (innW one f (if s[j + blanksN (s.data.toList.drop j)] = 123 then o + 1 else o) (s.data.toList.drop (j + blanksN (s.data.toList.drop j) + n))).up (blanksN (s.data.toList.drop j) + n)
      | r => r.up (blanksN (s.data.toList.drop j)) := by
  rw [innW, drop_drop', if_neg (ne_at s _ h)]
  cases one (s.data.toList.drop (j + blanksN (s.data.toList.drop j))) with
  | ok n =>
    simp only [head_at s _ h, drop_drop', Nat.add_assoc]
  | err e a => rfl
  | trunc => rfl
theorem inn_at (j2 : Nat) (hj2 : j + blanksN (s.data.toList.drop j) = j2) (h : j2 < s.size) : innW one (f + 1) o (s.data.toList.drop j) =
    match one (s.data.toList.drop j2) with
      | .ok n =>
        if s[j2] = 125 then
          (if o = 0 then .ok (j2 - j + n) else (innW one f (o - 1) (s.data.toList.drop (j2 + n))).up (j2 - j + n))
        else (innW one f (if s[j2] = 123 then o + 1 else o) (s.data.toList.drop (j2 + n))).up (j2 - j + n)
      | r => r.up (j2 - j) := by
  subst hj2
  have e : j + blanksN (s.data.toList.drop j) - j = blanksN (s.data.toList.drop j) := by omega
  rw [e]
  exact inn_step one f o s j h
theorem inn_fin (j2 : Nat) (hj2 : j + blanksN (s.data.toList.drop j) = j2) (h : ¬ j2 < s.size) : innW one (f + 1) o (s.data.toList.drop j) = .trunc := by
  subst hj2; exact inn_end one f o s j h
theorem blanks_fit (hj : j ≤ s.size) : j + blanksN (s.data.toList.drop j) ≤ s.size := by
  have hle := spanN_le isBlank (s.data.toList.drop j)
  rw [List.length_drop, show s.data.toList.length = s.size by simp] at hle
  unfold blanksN; omega
end
end Tok

set_option maxRecDepth 100000 in
set_option maxHeartbeats 2000000 in
theorem refInner_of (one : List UInt8 → Tok.R) (d : Nat) (q : Int) (s : ByteArray) (hs : s.size ≤ 1000000)
    (ho : ∀ (j : Nat) (w : World), j < s.size → Calls Tryd.prog 31 #[.string s, .int .i64 j, .int .i64 d, .int .i64 q] w fun e w' => e = oneEnd (s.data.toList.drop j) j q (one (s.data.toList.drop j)) ∧ Below w.heap.size w w')
    (hok : ∀ (j n : Nat), j < s.size → one (s.data.toList.drop j) = .ok n → 1 ≤ n ∧ j + n ≤ s.size)
    (hbr : ∀ (j : Nat) (hj : j < s.size) (b : UInt8), b = 125 ∨ b = 123 → s[j] = b → one (s.data.toList.drop j) = .ok 1 ∧ Tok.kindL (s.data.toList.drop j) = 4 ∧ Tok.textL (s.data.toList.drop j) 1 = [b])
    (hne : ∀ (l : List UInt8) (e : Int) (a : Nat), one l = .err e a → e ≠ 0)
    (k f : Nat) (hk : k ≤ s.size) (hf : s.size - k < f) (w : World) :
    Calls Tryd.prog 69 #[.string s, .int .i64 k, .int .i64 d, .int .i64 q] w fun e w' => e = readEnd k q (Tok.innW one f 0 (s.data.toList.drop k)) ∧ Below w.heap.size w w' := by
  obtain ⟨U, hU⟩ : ∃ U, U = Tok.innW one f 0 (s.data.toList.drop k) := ⟨_, rfl⟩
  rw [← hU]
  have HU := kept hU
  clear hU
  have Ho := kept ho; have Hok := kept hok; have Hbr := kept hbr; have Hne := kept hne
  clear ho hok hbr hne
  go_enter Tryd.func69, Tryd.ntmps69
  go_wp2
  go_loopw [1, 10] (fun av ov wr => ∃ (j o f : Nat), j ≤ s.size ∧ k ≤ j ∧ av = .int .i64 j ∧ ov = .int .i64 o ∧ o ≤ j ∧ s.size - j < f ∧ U = (Tok.innW one f o (s.data.toList.drop j)).up (j - k) ∧ DiagAt wr w.heap.size ∧ Below w.heap.size w wr ∧ w.heap.size < wr.heap.size) (fun av _ _ => s.size - (intOf av).toNat)
  case atStart => exact ⟨k, 0, f, hk, Nat.le_refl _, rfl, rfl, by omega, hf, by rw [HU.out, Nat.sub_self, Tok.R.up_zero], DiagAt.fresh w, ball w _, by simp⟩
  case round =>
    obtain ⟨j, o, f, hj, hkj, rfl, rfl, hoj, hf, hu, hdi, hbel, hsz⟩ := hrel
    have Hu := kept hu; have Hd := kept hdi; have Hl := kept hbel
    clear hu hdi hbel
    obtain ⟨f, rfl⟩ : ∃ f', f = f' + 1 := ⟨f - 1, by omega⟩
    have Hb := kept (fun w => refBlanks_any s j w hs hj)
    have hjn := Tok.blanks_fit s j hj
    obtain ⟨j2, hj2⟩ : ∃ j2, j + Tok.blanksN (s.data.toList.drop j) = j2 := ⟨_, rfl⟩
    have Hst := kept (Tok.inn_at one f o s j j2 hj2)
    have Hend := kept (Tok.inn_fin one f o s j j2 hj2)
    have hjj2 : j ≤ j2 := by omega
    rw [hj2] at Hb hjn
    clear hj2
    by_cases hlt : j2 < s.size
    · have hlt' : (j2 : Int) < s.size := by omega
      have Hx := kept (Hu.out.trans (by rw [Hst.out hlt]))
      have Hon := kept (fun w => Ho.out j2 w hlt)
      have Hok2 := kept (fun n => Hok.out j2 n hlt)
      have Hne2 := kept (Hne.out (s.data.toList.drop j2))
      have Hb125 := kept (Hbr.out j2 hlt 125 (.inl rfl))
      have Hb123 := kept (Hbr.out j2 hlt 123 (.inr rfl))
      have Hot := kept (fun n b => Tok.text_other s j2 hlt n b)
      clear Hst Hend
      obtain ⟨r, hr⟩ : ∃ r, one (s.data.toList.drop j2) = r := ⟨_, rfl⟩
      rw [hr] at Hx Hon Hne2 Hb125 Hb123
      simp only [hr] at Hok2
      obtain ⟨kd, hkd⟩ : ∃ kd, Tok.kindL (s.data.toList.drop j2) = kd := ⟨_, rfl⟩
      rw [hkd] at Hb125 Hb123
      simp only [hkd] at Hot
      have Hkd := kept hkd
      clear hr hkd
      cases r with
      | ok n =>
        have hon := Hok2.out n rfl
        have hon1 : 1 ≤ n := hon.1
        have hon2 : j2 + n ≤ s.size := hon.2
        obtain ⟨tx, htx⟩ : ∃ tx, Tok.textL (s.data.toList.drop j2) n = tx := ⟨_, rfl⟩
        have Hot2 := kept (Hot.out n)
        rw [htx] at Hot2
        have Htx := kept htx
        clear hon htx
        simp only [oneEnd, diagV, tokV, Hkd.out, Htx.out] at Hon
        rw [show ((j2 + n : Nat) : Int) = (j2 : Int) + n by omega] at Hon
        by_cases c125 : s[j2] = 125
        · obtain ⟨e1, e2, e3⟩ := Hb125.out c125
          obtain rfl : n = 1 := by injection e1
          subst e2
          obtain rfl : tx = [125] := Htx.out.symm.trans e3
          clear e1 e3
          have hx : U = Tok.R.up (j - k) (if s[j2] = 125 then (if o = 0 then .ok (j2 - j + 1) else (Tok.innW one f (o - 1) (s.data.toList.drop (j2 + 1))).up (j2 - j + 1)) else (Tok.innW one f (if s[j2] = 123 then o + 1 else o) (s.data.toList.drop (j2 + 1))).up (j2 - j + 1)) := Hx.out
          rw [if_pos c125] at hx
          clear c125
          by_cases ho0 : o = 0
          · subst ho0
            have Hx2 := kept (show U = .ok (j - k + (j2 - j + 1)) by rw [hx, if_pos rfl]; simp [Tok.R.up])
            clear hx
            (try rw [show ((0 : Nat) : Int) = 0 from rfl])
            go_wp2_with fail
            (with_reducible refine (Hb.out _).mono ?_); rintro e w1 ⟨rfl, rfl⟩
            go_wp2_with fail
            (with_reducible refine (Hon.out _).mono ?_); rintro e w9 ⟨rfl, b9⟩
            have Hd9 := kept (Hd.out.below b9); have Hl9 := kept (bthen2 Hl.out b9 (by omega)); have hsz9 := b9.size; clear b9
            obtain ⟨c0, c1, c2, f0, f1, f2⟩ := Hd9.out.facts
            have hsz2 : w.heap.size < w9.heap.size := by omega
            go_wp2
            exact bodyPost_ret (v := .tuple #[.int .i64 (j2 + 1 : Int), diagV 0 0]) (by simp [c0, c1, c2, hsz2, results, Tryd.results69, go_sem, diagV]) rfl ⟨readEnd_ok Hx2.out (by omega), ((bset3 Hl9.out (Nat.le_refl _) _ _ _).alloc (by simp; omega) _).alloc (by simp; omega) _⟩
          · rw [if_neg ho0] at hx
            have Hx2 := kept hx
            have ho1 : ((o : Int) == 0) = false := by simpa using ho0
            have ho2 : 1 ≤ (o : Int) := by omega
            clear hx
            go_wp2_with fail
            (with_reducible refine (Hb.out _).mono ?_); rintro e w1 ⟨rfl, rfl⟩
            go_wp2_with fail
            (with_reducible refine (Hon.out _).mono ?_); rintro e w9 ⟨rfl, b9⟩
            have Hd9 := kept (Hd.out.below b9); have Hl9 := kept (bthen2 Hl.out b9 (by omega)); have hsz9 := b9.size; clear b9
            obtain ⟨c0, c1, c2, f0, f1, f2⟩ := Hd9.out.facts
            have hsz2 : w.heap.size < w9.heap.size := by omega
            go_wp2
            exact ⟨⟨j2 + 1, o - 1, f, by omega, by omega, by go_num, by go_num, by omega, by omega, by rw [Hx2.out, Tok.R.up_up]; congr 1; omega, (Hd9.out.below (ball _ _)).below (ball _ _), ((Hl9.out).alloc (by omega) _).alloc (by simp; omega) _, by simp; omega⟩, by simp [intOf]; omega⟩
        · have hx : U = Tok.R.up (j - k) (if s[j2] = 125 then (if o = 0 then .ok (j2 - j + n) else (Tok.innW one f (o - 1) (s.data.toList.drop (j2 + n))).up (j2 - j + n)) else (Tok.innW one f (if s[j2] = 123 then o + 1 else o) (s.data.toList.drop (j2 + n))).up (j2 - j + n)) := Hx.out
          rw [if_neg c125] at hx
          by_cases c123 : s[j2] = 123
          · obtain ⟨e1, e2, e3⟩ := Hb123.out c123
            obtain rfl : n = 1 := by injection e1
            subst e2
            obtain rfl : tx = [123] := Htx.out.symm.trans e3
            rw [if_pos c123] at hx
            have Hx2 := kept hx
            clear hx e1 e3 c123 c125
            go_wp2_with fail
            (with_reducible refine (Hb.out _).mono ?_); rintro e w1 ⟨rfl, rfl⟩
            go_wp2_with fail
            (with_reducible refine (Hon.out _).mono ?_); rintro e w9 ⟨rfl, b9⟩
            have Hd9 := kept (Hd.out.below b9); have Hl9 := kept (bthen2 Hl.out b9 (by omega)); have hsz9 := b9.size; clear b9
            obtain ⟨c0, c1, c2, f0, f1, f2⟩ := Hd9.out.facts
            have hsz2 : w.heap.size < w9.heap.size := by omega
            go_wp2
            exact ⟨⟨j2 + 1, o + 1, f, by omega, by omega, by go_num, by go_num, by omega, by omega, by rw [Hx2.out, Tok.R.up_up]; congr 1; omega, (Hd9.out.below (ball _ _)).below (ball _ _), ((Hl9.out).alloc (by omega) _).alloc (by simp; omega) _, by simp; omega⟩, by simp [intOf]; omega⟩
          · rw [if_neg c123] at hx
            have Hx2 := kept hx
            have Ht1 := kept (Hot2.out 125 c125); have Ht2 := kept (Hot2.out 123 c123)
            clear hx c123 c125
            by_cases hk4 : kd = 4
            · have ht1 : tx ≠ [125] := Ht1.out hk4
              have ht2 : tx ≠ [123] := Ht2.out hk4
              have ht1a : (tx == [125]) = false := by simpa using ht1
              have ht2a : (tx == [123]) = false := by simpa using ht2
              subst hk4
              clear ht1 ht2
              go_wp2_with fail
              (with_reducible refine (Hb.out _).mono ?_); rintro e w1 ⟨rfl, rfl⟩
              go_wp2_with fail
              (with_reducible refine (Hon.out _).mono ?_); rintro e w9 ⟨rfl, b9⟩
              have Hd9 := kept (Hd.out.below b9); have Hl9 := kept (bthen2 Hl.out b9 (by omega)); have hsz9 := b9.size; clear b9
              obtain ⟨c0, c1, c2, f0, f1, f2⟩ := Hd9.out.facts
              have hsz2 : w.heap.size < w9.heap.size := by omega
              go_wp2
              exact ⟨⟨j2 + n, o, f, by omega, by omega, by go_num, rfl, by omega, by omega, by rw [Hx2.out, Tok.R.up_up]; congr 1; omega, (Hd9.out.below (ball _ _)).below (ball _ _), ((Hl9.out).alloc (by omega) _).alloc (by simp; omega) _, by simp; omega⟩, by simp [intOf]; omega⟩
            · have hk4a : (kd == 4) = false := by simpa using hk4
              go_wp2_with fail
              (with_reducible refine (Hb.out _).mono ?_); rintro e w1 ⟨rfl, rfl⟩
              go_wp2_with fail
              (with_reducible refine (Hon.out _).mono ?_); rintro e w9 ⟨rfl, b9⟩
              have Hd9 := kept (Hd.out.below b9); have Hl9 := kept (bthen2 Hl.out b9 (by omega)); have hsz9 := b9.size; clear b9
              obtain ⟨c0, c1, c2, f0, f1, f2⟩ := Hd9.out.facts
              have hsz2 : w.heap.size < w9.heap.size := by omega
              go_wp2
              exact ⟨⟨j2 + n, o, f, by omega, by omega, by go_num, rfl, by omega, by omega, by rw [Hx2.out, Tok.R.up_up]; congr 1; omega, (Hd9.out.below (ball _ _)).below (ball _ _), ((Hl9.out).alloc (by omega) _).alloc (by simp; omega) _, by simp; omega⟩, by simp [intOf]; omega⟩
      | err e0 a0 =>
        have hne0 := Hne2.out e0 a0 rfl
        have hne1 : (e0 == 0) = false := by simpa using hne0
        have hne2 : (e0 != 0) = true := by simpa using hne0
        have Hx2 := kept (show U = .err e0 (j - k + (j2 - j + a0)) by rw [Hx.out]; simp [Tok.R.up])
        simp only [oneEnd, diagV, tokV] at Hon
        go_wp2_with fail
        (with_reducible refine (Hb.out _).mono ?_); rintro e w1 ⟨rfl, rfl⟩
        go_wp2_with fail
        (with_reducible refine (Hon.out _).mono ?_); rintro e w9 ⟨rfl, b9⟩
        have Hd9 := kept (Hd.out.below b9); have Hl9 := kept (bthen2 Hl.out b9 (by omega)); have hsz9 := b9.size; clear b9
        obtain ⟨c0, c1, c2, f0, f1, f2⟩ := Hd9.out.facts
        have hsz2 : w.heap.size < w9.heap.size := by omega
        go_wp2
        go_region
        all_goals go_wp2
        all_goals exact bodyPost_ret (v := .tuple #[.int .i64 0, diagV e0 (j2 + a0 : Int)]) (by simp [c0, c1, c2, hsz2, results, Tryd.results69, go_sem, diagV]) rfl ⟨readEnd_err Hx2.out (by omega), (((bset3 Hl9.out (Nat.le_refl _) _ _ _).alloc (by simp; omega) _).alloc (by simp; omega) _).drew⟩
      | trunc =>
        have Hx2 := kept (show U = .trunc by rw [Hx.out]; simp [Tok.R.up])
        simp only [oneEnd, diagV, tokV] at Hon
        go_wp2_with fail
        (with_reducible refine (Hb.out _).mono ?_); rintro e w1 ⟨rfl, rfl⟩
        go_wp2_with fail
        (with_reducible refine (Hon.out _).mono ?_); rintro e w9 ⟨rfl, b9⟩
        have Hd9 := kept (Hd.out.below b9); have Hl9 := kept (bthen2 Hl.out b9 (by omega)); have hsz9 := b9.size; clear b9
        obtain ⟨c0, c1, c2, f0, f1, f2⟩ := Hd9.out.facts
        have hsz2 : w.heap.size < w9.heap.size := by omega
        go_wp2
        go_region
        all_goals go_wp2
        all_goals exact bodyPost_ret (v := .tuple #[.int .i64 0, diagV 40 q]) (by simp [c0, c1, c2, hsz2, results, Tryd.results69, go_sem, diagV]) rfl ⟨readEnd_trunc Hx2.out, (((bset3 Hl9.out (Nat.le_refl _) _ _ _).alloc (by simp; omega) _).alloc (by simp; omega) _).drew⟩
    · have hx : U = .trunc := by rw [Hu.out, Hend.out hlt]; rfl
      have Hx := kept hx
      clear hx Hst Hend
      go_wp2_with fail
      (with_reducible refine (Hb.out _).mono ?_); rintro e w1 ⟨rfl, rfl⟩
      go_wp2_with fail
      (with_reducible refine (refBad_any _ _ _).mono ?_); rintro e w9 ⟨rfl, b9⟩
      have Hd9 := kept (Hd.out.below b9); have Hl9 := kept (bthen2 Hl.out b9 (by omega)); clear b9
      obtain ⟨c0, c1, c2, f0, f1, f2⟩ := Hd9.out.facts
      go_wp2
      exact bodyPost_ret (v := .tuple #[.int .i64 0, diagV 40 q]) (by simp [c0, c1, c2, results, Tryd.results69, go_sem, diagV]) rfl ⟨readEnd_trunc Hx.out, bset3 Hl9.out (Nat.le_refl _) _ _ _⟩
end Go.Proofs.YtbpaeglmanjbfaaDoor
