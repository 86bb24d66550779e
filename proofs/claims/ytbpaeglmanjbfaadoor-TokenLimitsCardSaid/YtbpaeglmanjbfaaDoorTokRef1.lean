/- The walks of provisionref13: letter, digit, tail, Width, Sign, blanks, Skip, run. -/
import Derived.Test.YtbpaeglmanjbfaaDoorRows
import Derived.Test.YtbpaeglmanjbfaaDoorLib
import Derived.Test.YtbpaeglmanjbfaaDoorTokSpec
import Derived.Deep.QuietTactic
import Derived.BigQuiet
import Derived.BigRegion
import Derived.IntWalk
namespace Go.Proofs.YtbpaeglmanjbfaaDoor
open Go.RowKit
set_option linter.unusedSimpArgs false
set_option linter.unusedVariables false
namespace Tok

theorem isLetter_int (b : UInt8) : isLetter b = decide ((b.toNat : Int) = 95 ∨ (97 ≤ (b.toNat : Int) ∧ (b.toNat : Int) ≤ 122) ∨ (65 ≤ (b.toNat : Int) ∧ (b.toNat : Int) ≤ 90)) := by
  unfold isLetter
  rw [Bool.eq_iff_iff]
  simp only [Bool.or_eq_true, Bool.and_eq_true, decide_eq_true_eq, beq_iff_eq, UInt8.le_iff_toNat_le, ← UInt8.toNat_inj]
  simp only [UInt8.reduceToNat]
  omega
theorem isDigit_int (b : UInt8) : isDigit b = decide (48 ≤ (b.toNat : Int) ∧ (b.toNat : Int) ≤ 57) := by
  unfold isDigit
  rw [Bool.eq_iff_iff]
  simp only [Bool.and_eq_true, decide_eq_true_eq, UInt8.le_iff_toNat_le, UInt8.reduceToNat]
  omega
theorem blank_cases (b : UInt8) : (isBlank b = true ∧ ((b.toNat : Int) = 32 ∨ (b.toNat : Int) = 9 ∨ (b.toNat : Int) = 13)) ∨ (isBlank b = false ∧ ¬ ((b.toNat : Int) = 32 ∨ (b.toNat : Int) = 9 ∨ (b.toNat : Int) = 13)) := by
  have : isBlank b = decide ((b.toNat : Int) = 32 ∨ (b.toNat : Int) = 9 ∨ (b.toNat : Int) = 13) := by
    unfold isBlank
    rw [Bool.eq_iff_iff]
    simp only [Bool.or_eq_true, decide_eq_true_eq, beq_iff_eq, ← UInt8.toNat_inj, UInt8.reduceToNat]
    omega
  rw [this]
  by_cases h : ((b.toNat : Int) = 32 ∨ (b.toNat : Int) = 9 ∨ (b.toNat : Int) = 13)
  · exact .inl ⟨decide_eq_true h, h⟩
  · exact .inr ⟨decide_eq_false h, h⟩
theorem isBlank_int (b : UInt8) : isBlank b = decide ((b.toNat : Int) = 32 ∨ (b.toNat : Int) = 9 ∨ (b.toNat : Int) = 13) := by
  unfold isBlank
  rw [Bool.eq_iff_iff]
  simp only [Bool.or_eq_true, decide_eq_true_eq, beq_iff_eq, ← UInt8.toNat_inj, UInt8.reduceToNat]
  omega
end Tok

theorem byte_int (b : UInt8) : ∃ u : Int, (b.toNat : Int) = u ∧ 0 ≤ u ∧ u < 256 := ⟨_, rfl, by omega, by have := b.toNat_lt; omega⟩
set_option maxHeartbeats 400000 in
theorem refLetter_any (b : UInt8) (w : World) :
    Calls Tryd.prog 53 #[.int .u8 b.toNat] w fun e w' => e = .returned (.bool (Tok.isLetter b)) ∧ w = w' := by
  rw [Tok.isLetter_int]
  obtain ⟨u, hu, h0, h1⟩ := byte_int b
  rw [hu]
  clear hu
  go_enter Tryd.func53, Tryd.ntmps53
  go_wp2
  all_goals go_ret
  all_goals refine ⟨ret_bool ?_, rfl⟩
  all_goals (try simp only [beq_iff_eq, beq_eq_false_iff_ne, ne_eq] at *)
  all_goals (rw [Bool.eq_iff_iff]; simp only [Bool.or_eq_true, Bool.and_eq_true, decide_eq_true_eq, beq_iff_eq, Bool.false_eq_true, true_iff, false_iff]; omega)
set_option maxHeartbeats 400000 in
theorem refDigit_any (b : UInt8) (w : World) :
    Calls Tryd.prog 54 #[.int .u8 b.toNat] w fun e w' => e = .returned (.bool (Tok.isDigit b)) ∧ w = w' := by
  rw [Tok.isDigit_int]
  obtain ⟨u, hu, h0, h1⟩ := byte_int b
  rw [hu]
  clear hu
  go_enter Tryd.func54, Tryd.ntmps54
  go_wp2
  all_goals go_ret
  all_goals refine ⟨ret_bool ?_, rfl⟩
  all_goals (try simp only [beq_iff_eq, beq_eq_false_iff_ne, ne_eq] at *)
  all_goals (rw [Bool.eq_iff_iff]; simp only [Bool.or_eq_true, Bool.and_eq_true, decide_eq_true_eq, beq_iff_eq, Bool.false_eq_true, true_iff, false_iff]; omega)

namespace Tok
theorem get_cons (s : ByteArray) (k : Nat) (h : k < s.size) : s.data.toList.drop k = s[k] :: s.data.toList.drop (k + 1) := by
  rw [List.drop_eq_getElem_cons (by simpa using h)]; rfl
theorem drop_end (s : ByteArray) (k : Nat) (h : ¬ k < s.size) : s.data.toList.drop k = [] := List.drop_of_length_le (by simp; omega)
theorem spanN_step (p : UInt8 → Bool) (s : ByteArray) (k : Nat) (h : k < s.size) (hp : p s[k] = true) : k + spanN p (s.data.toList.drop k) = (k + 1) + spanN p (s.data.toList.drop (k + 1)) := by
  rw [get_cons s k h, spanN, if_pos hp]; omega
theorem spanN_stop (p : UInt8 → Bool) (s : ByteArray) (k : Nat) (h : k < s.size) (hp : p s[k] = false) : spanN p (s.data.toList.drop k) = 0 := by
  rw [get_cons s k h, spanN, hp]; rfl
theorem spanN_end (p : UInt8 → Bool) (s : ByteArray) (k : Nat) (h : ¬ k < s.size) : spanN p (s.data.toList.drop k) = 0 := by
  rw [drop_end s k h]; rfl
theorem spanN_le (p : UInt8 → Bool) : ∀ l : List UInt8, spanN p l ≤ l.length
  | [] => by simp [spanN]
  | b :: l => by have := spanN_le p l; unfold spanN; split <;> simp; omega
end Tok
theorem bool_or (b : Bool) : b = true ∨ b = false := by cases b <;> simp

set_option maxHeartbeats 400000 in
theorem refBlanks_any (s : ByteArray) (k : Nat) (w : World) (hs : s.size ≤ 1000000) (hk : k ≤ s.size) :
    Calls Tryd.prog 52 #[.string s, .int .i64 k] w fun e w' => e = .returned (.int .i64 (k + Tok.blanksN (s.data.toList.drop k) : Nat)) ∧ w = w' := by
  obtain ⟨m, hm⟩ : ∃ m, m = k + Tok.blanksN (s.data.toList.drop k) := ⟨_, rfl⟩
  rw [← hm]
  have Hm := kept hm
  clear hm
  go_enter Tryd.func52, Tryd.ntmps52
  go_wp2
  go_loop [1] (fun i => ∃ j : Nat, j ≤ s.size ∧ i = .int .i64 j ∧ m = j + Tok.blanksN (s.data.toList.drop j)) (fun i => s.size - (intOf i).toNat)
  case atStart => exact ⟨k, hk, rfl, Hm.out⟩
  case round =>
    obtain ⟨j, hj, rfl, hmj⟩ := hrel
    have Hj := kept hmj
    clear hmj
    by_cases hlt : j < s.size
    · have hlt' : (j : Int) < s.size := by omega
      have Hb := kept (Tok.blank_cases s[j])
      have Hst := kept (Tok.spanN_step Tok.isBlank s j hlt)
      have Hsp := kept (Tok.spanN_stop Tok.isBlank s j hlt)
      obtain ⟨u, hu, h0, h1⟩ := byte_int s[j]
      rw [hu] at Hb
      rcases Hb.out with ⟨hb, hc⟩ | ⟨hb, hc⟩
      · have Hn := kept (Hj.out.trans (Hst.out hb))
        clear hb Hb Hst Hsp
        go_wp2
        all_goals (try simp only [beq_iff_eq, beq_eq_false_iff_ne, ne_eq] at *)
        all_goals first
          | (exfalso; omega)
          | exact ⟨⟨j + 1, by omega, by go_num, Hn.out⟩, by simp [intOf]; omega⟩
      · have Hn := kept (show m = j by rw [Hj.out]; unfold Tok.blanksN; rw [Hsp.out hb]; rfl)
        clear hb Hb Hst Hsp
        go_wp2
        all_goals (try simp only [beq_iff_eq, beq_eq_false_iff_ne, ne_eq] at *)
        all_goals first
          | (exfalso; omega)
          | (go_ret; exact ⟨ret_nat Hn.out.symm, rfl⟩)
    · have Hn := kept (show m = j by rw [Hj.out]; unfold Tok.blanksN; rw [Tok.spanN_end _ _ _ hlt]; rfl)
      go_wp2
      go_ret
      exact ⟨ret_nat Hn.out.symm, rfl⟩

theorem Tok.comment_at (s : ByteArray) (j : Nat) (hj : j < s.size) (h : s[j] = 35) : Tok.commentN (s.data.toList.drop j) = Tok.spanN (· != 10) (s.data.toList.drop j) := by
  unfold Tok.commentN; rw [if_pos]; rw [Tok.get_cons s j hj, h]; rfl
theorem Tok.comment_no (s : ByteArray) (j : Nat) (h : ∀ hj : j < s.size, s[j] ≠ 35) : Tok.commentN (s.data.toList.drop j) = 0 := by
  unfold Tok.commentN; rw [if_neg]
  by_cases hj : j < s.size
  · rw [Tok.get_cons s j hj]; simpa using h hj
  · rw [Tok.drop_end s j hj]; simp
theorem byte_ne' (b : UInt8) (n : Nat) (hn : n < 256) (h : b ≠ UInt8.ofNat n) : ¬ (b.toNat : Int) = (n : Int) := by
  intro hh; apply h; rw [← UInt8.toNat_inj, UInt8.toNat_ofNat']; omega
theorem byte_eq' (b : UInt8) (n : Nat) (hn : n < 256) (h : (b.toNat : Int) = (n : Int)) : b = UInt8.ofNat n := by
  rw [← UInt8.toNat_inj, UInt8.toNat_ofNat']; omega
theorem drop_drop' (s : ByteArray) (i j : Nat) : (s.data.toList.drop i).drop j = s.data.toList.drop (i + j) := List.drop_drop

set_option maxHeartbeats 400000 in
theorem refSkip_any (s : ByteArray) (k : Nat) (w : World) (hs : s.size ≤ 1000000) (hk : k ≤ s.size) :
    Calls Tryd.prog 29 #[.string s, .int .i64 k] w fun e w' => e = .returned (.int .i64 (k + Tok.skipN (s.data.toList.drop k) : Nat)) ∧ w = w' := by
  obtain ⟨m, hm⟩ : ∃ m, m = k + Tok.skipN (s.data.toList.drop k) := ⟨_, rfl⟩
  rw [← hm]
  have hb := kept (refBlanks_any s k · hs hk)
  have hle := Tok.spanN_le Tok.isBlank (s.data.toList.drop k)
  rw [List.length_drop, show s.data.toList.length = s.size by simp] at hle
  unfold Tok.skipN at hm
  rw [drop_drop', ← Nat.add_assoc] at hm
  obtain ⟨k2, hk2⟩ : ∃ k2, k + Tok.blanksN (s.data.toList.drop k) = k2 := ⟨_, rfl⟩
  rw [hk2] at hb hm
  have hk2s : k2 ≤ s.size := by unfold Tok.blanksN at hk2; omega
  have Hm := kept hm
  clear hm hk2 hle
  go_enter Tryd.func29, Tryd.ntmps29
  go_wp2_with fail
  (with_reducible refine (hb.out _).mono ?_); rintro e w1 ⟨rfl, rfl⟩
  by_cases h35 : ∃ hlt : k2 < s.size, s[k2] = 35
  · obtain ⟨hlt, h35⟩ := h35
    have Hc := kept (Hm.out.trans (by rw [Tok.comment_at s k2 hlt h35]))
    have hlt' : (k2 : Int) < s.size := by omega
    have hu : (s[k2].toNat : Int) = 35 := by rw [h35]; rfl
    clear h35
    go_wp2
    go_loop [1] (fun i => ∃ j : Nat, j ≤ s.size ∧ i = .int .i64 j ∧ m = j + Tok.spanN (· != 10) (s.data.toList.drop j)) (fun i => s.size - (intOf i).toNat)
    case atStart => exact ⟨k2, hk2s, rfl, Hc.out⟩
    case round =>
      obtain ⟨j, hj, rfl, hmj⟩ := hrel
      have Hj := kept hmj
      clear hmj hu hlt hlt'
      by_cases hlt : j < s.size
      · have hlt' : (j : Int) < s.size := by omega
        by_cases h10 : s[j] = 10
        · have Hn := kept (show m = j by rw [Hj.out, Tok.spanN_stop _ s j hlt (by rw [h10]; rfl)]; rfl)
          have hu : (s[j].toNat : Int) = 10 := by rw [h10]; rfl
          clear h10
          go_wp2
          go_ret
          exact ⟨ret_nat Hn.out.symm, rfl⟩
        · have Hn := kept (Hj.out.trans (Tok.spanN_step (· != 10) s j hlt (by simpa using h10)))
          have hu : ((s[j].toNat : Int) != 10) = true := by have := byte_ne' s[j] 10 (by decide) h10; simpa using this
          clear h10
          go_wp2
          exact ⟨⟨j + 1, by omega, by go_num, Hn.out⟩, by simp [intOf]; omega⟩
      · have Hn := kept (show m = j by rw [Hj.out, Tok.spanN_end _ _ _ hlt]; rfl)
        go_wp2
        go_ret
        exact ⟨ret_nat Hn.out.symm, rfl⟩
  · have Hn := kept (show m = k2 by rw [Hm.out, Tok.comment_no s k2 (fun hj hh => h35 ⟨hj, hh⟩)]; rfl)
    by_cases hlt : k2 < s.size
    · have hlt' : (k2 : Int) < s.size := by omega
      have hu : ((s[k2].toNat : Int) == 35) = false := by have := byte_ne' s[k2] 35 (by decide) (fun hh => h35 ⟨hlt, hh⟩); simpa using this
      clear h35
      go_wp2
      go_ret
      exact ⟨ret_nat Hn.out.symm, rfl⟩
    · clear h35
      go_wp2
      go_ret
      exact ⟨ret_nat Hn.out.symm, rfl⟩

set_option maxHeartbeats 400000 in
theorem refRun_any (s : ByteArray) (k : Nat) (lt : Bool) (w : World) (hs : s.size ≤ 1000000) (hk : k ≤ s.size) :
    Calls Tryd.prog 56 #[.string s, .int .i64 k, .bool lt] w fun e w' => e = .returned (.int .i64 (k + Tok.spanN (fun c => (lt && Tok.isLetter c) || Tok.isDigit c) (s.data.toList.drop k) : Nat)) ∧ w = w' := by
  obtain ⟨p, hp⟩ : ∃ p : UInt8 → Bool, p = fun c => (lt && Tok.isLetter c) || Tok.isDigit c := ⟨_, rfl⟩
  rw [← hp]
  have Hp := kept (show ∀ c, p c = ((lt && Tok.isLetter c) || Tok.isDigit c) by intro c; rw [hp])
  clear hp
  obtain ⟨m, hm⟩ : ∃ m, m = k + Tok.spanN p (s.data.toList.drop k) := ⟨_, rfl⟩
  rw [← hm]
  have Hm := kept hm
  clear hm
  go_enter Tryd.func56, Tryd.ntmps56
  go_wp2
  go_loop [1] (fun i => ∃ j : Nat, j ≤ s.size ∧ i = .int .i64 j ∧ m = j + Tok.spanN p (s.data.toList.drop j)) (fun i => s.size - (intOf i).toNat)
  case atStart => exact ⟨k, hk, rfl, Hm.out⟩
  case round =>
    obtain ⟨j, hj, rfl, hmj⟩ := hrel
    have Hj := kept hmj
    clear hmj
    by_cases hlt : j < s.size
    · have hlt' : (j : Int) < s.size := by omega
      have Hst := kept (Tok.spanN_step p s j hlt)
      have Hsp := kept (Tok.spanN_stop p s j hlt)
      have Hq := kept (Hp.out s[j])
      have Hd := kept (refDigit_any s[j])
      have Hl := kept (refLetter_any s[j])
      rcases bool_or (Tok.isDigit s[j]) with hd | hd
      · rw [hd] at Hd Hq
        have Hn := kept (Hj.out.trans (Hst.out (by rw [Hq.out]; simp)))
        clear hd
        go_wp2_with fail
        (with_reducible refine (Hd.out _).mono ?_); rintro e w1 ⟨rfl, rfl⟩
        go_wp2
        exact ⟨⟨j + 1, by omega, by go_num, Hn.out⟩, by simp [intOf]; omega⟩
      · rw [hd] at Hd Hq
        rcases bool_or lt with rfl | rfl
        · rcases bool_or (Tok.isLetter s[j]) with hl | hl
          · rw [hl] at Hl Hq
            have Hn := kept (Hj.out.trans (Hst.out (by rw [Hq.out]; simp)))
            clear hd hl
            go_wp2_with fail
            (with_reducible refine (Hd.out _).mono ?_); rintro e w1 ⟨rfl, rfl⟩
            go_wp2_with fail
            (with_reducible refine (Hl.out _).mono ?_); rintro e w1 ⟨rfl, rfl⟩
            go_wp2
            exact ⟨⟨j + 1, by omega, by go_num, Hn.out⟩, by simp [intOf]; omega⟩
          · rw [hl] at Hl Hq
            have Hn := kept (show m = j by rw [Hj.out, Hsp.out (by rw [Hq.out]; simp)]; rfl)
            clear hd hl
            go_wp2_with fail
            (with_reducible refine (Hd.out _).mono ?_); rintro e w1 ⟨rfl, rfl⟩
            go_wp2_with fail
            (with_reducible refine (Hl.out _).mono ?_); rintro e w1 ⟨rfl, rfl⟩
            go_wp2
            go_ret
            exact ⟨ret_nat Hn.out.symm, rfl⟩
        · have Hn := kept (show m = j by rw [Hj.out, Hsp.out (by rw [Hq.out]; simp)]; rfl)
          clear hd
          go_wp2_with fail
          (with_reducible refine (Hd.out _).mono ?_); rintro e w1 ⟨rfl, rfl⟩
          go_wp2
          go_ret
          exact ⟨ret_nat Hn.out.symm, rfl⟩
    · have Hn := kept (show m = j by rw [Hj.out, Tok.spanN_end _ _ _ hlt]; rfl)
      go_wp2
      go_ret
      exact ⟨ret_nat Hn.out.symm, rfl⟩
end Go.Proofs.YtbpaeglmanjbfaaDoor
