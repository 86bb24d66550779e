/- The walks of token: begins, run, skip. -/
import Derived.Test.YtbpaeglmanjbfaaDoorTokProg3
import Derived.Test.YtbpaeglmanjbfaaDoorTokProg5
import Derived.Test.YtbpaeglmanjbfaaDoorLib3
namespace Go.Proofs.YtbpaeglmanjbfaaDoor
open Go.RowKit
set_option linter.unusedSimpArgs false
set_option linter.unusedVariables false
namespace Tok
set_option maxRecDepth 100000 in
theorem cls_is : ∀ q : Fin 256, (clsN q.val = 2 ↔ isLetter (UInt8.ofNat q.val) = true) ∧ (clsN q.val = 3 ↔ isDigit (UInt8.ofNat q.val) = true) ∧ (clsN q.val = 5 ↔ q.val = 34) ∧ (clsN q.val = 6 ↔ q.val = 10) ∧ (clsN q.val = 7 ↔ q.val = 35) ∧ (clsN q.val = 1 ↔ isBlank (UInt8.ofNat q.val) = true) := by decide
theorem cls_at (b : UInt8) : (clsN b.toNat = 2 ↔ isLetter b = true) ∧ (clsN b.toNat = 3 ↔ isDigit b = true) ∧ (clsN b.toNat = 5 ↔ b = 34) ∧ (clsN b.toNat = 6 ↔ b = 10) ∧ (clsN b.toNat = 7 ↔ b = 35) ∧ (clsN b.toNat = 1 ↔ isBlank b = true) := by
  have h := cls_is ⟨b.toNat, b.toNat_lt⟩
  simp only [UInt8.ofNat_toNat] at h
  rw [← UInt8.toNat_inj (b := 34), ← UInt8.toNat_inj (b := 10), ← UInt8.toNat_inj (b := 35)]
  exact h
end Tok
set_option maxRecDepth 100000 in
set_option maxHeartbeats 1000000 in
theorem begins_any (w : World) (b : Nat) (s : ByteArray) (k : Nat) (o kd p : Int) (h : Sc w b s k o kd p) (hk : k < s.size) :
    Calls Tryd.prog 26 #[.pointer (some ⟨b, 0, none⟩)] w fun e w' => e = .returned (.bool (Tok.beginsB (s.data.toList.drop k))) ∧ ∃ n, w' = w.drewN n := by
  obtain ⟨c0, c1, c2, c3, c4, c5⟩ := h.facts
  have hm := s[k].toNat_lt
  have cc := h.cls s[k].toNat hm
  obtain ⟨t2, t3, t5, t6, _, _⟩ := Tok.cls_at s[k]
  have hb := Tok.begins_at s k hk
  have hsg := Tok.sign_le s k hk
  have hlen : ((s.data.toList.drop k).take (Tok.signN (s.data.toList.drop k))).length = Tok.signN (s.data.toList.drop k) := by
    rw [List.length_take, List.length_drop, show s.data.toList.length = s.size by simp]; omega
  have Hsg := kept (fun w => signAt_any (s.extract k s.size) w)
  rw [Lib.extract_to_end] at Hsg
  generalize Tok.signN (s.data.toList.drop k) = sn at *
  generalize (s.data.toList.drop k).take sn = tx at *
  generalize Tok.beginsB (s.data.toList.drop k) = r at *
  generalize Tok.isLetter s[k] = il at *
  generalize Tok.isDigit s[k] = id at *
  obtain ⟨m, hmm⟩ : ∃ m, s[k].toNat = m := ⟨_, rfl⟩
  rw [hmm] at cc hm t2 t3 t5 t6
  generalize Tok.clsN m = c at *
  obtain ⟨q, hq⟩ : ∃ q, 2 + m = q := ⟨_, rfl⟩
  rw [hq] at cc
  have hlt' : (k : Int) < s.size := by omega
  have hlt2 : (k : Int) ≤ s.size := by omega
  have hm' : (m : Int) < 256 := by omega
  clear hm h hsg
  have Hl := kept hlen
  clear hlen
  by_cases h2 : c = 2
  · subst h2
    have Hr := kept (show r = true by rw [hb, t2.1 rfl]; rfl)
    clear t2 t3 t5 t6 hb
    go_enter Tryd.func26, Tryd.ntmps26
    go_wp2
    go_quiet (fail)
    go_wp2
    go_ret
    exact ⟨ret_bool Hr.out.symm, _, rfl⟩
  have g2 : ((c : Int) == 2) = false := by simp; omega
  by_cases h3 : c = 3
  · subst h3
    have Hr := kept (show r = true by rw [hb, t3.1 rfl]; simp)
    clear t2 t3 t5 t6 hb
    go_enter Tryd.func26, Tryd.ntmps26
    go_wp2
    go_quiet (fail)
    go_wp2
    go_ret
    exact ⟨ret_bool Hr.out.symm, _, rfl⟩
  have g3 : ((c : Int) == 3) = false := by simp; omega
  by_cases h5 : c = 5
  · subst h5
    have Hr := kept (show r = true by rw [hb, t5.1 rfl]; simp)
    clear t2 t3 t5 t6 hb
    go_enter Tryd.func26, Tryd.ntmps26
    go_wp2
    go_quiet (fail)
    go_wp2
    go_ret
    exact ⟨ret_bool Hr.out.symm, _, rfl⟩
  have g5 : ((c : Int) == 5) = false := by simp; omega
  by_cases h6 : c = 6
  · subst h6
    have Hr := kept (show r = true by rw [hb, t6.1 rfl]; simp)
    clear t2 t3 t5 t6 hb
    go_enter Tryd.func26, Tryd.ntmps26
    go_wp2
    go_quiet (fail)
    go_wp2
    go_ret
    exact ⟨ret_bool Hr.out.symm, _, rfl⟩
  have g6 : ((c : Int) == 6) = false := by simp; omega
  have hb2 : r = (sn != 0) := by
    rw [hb, show il = false by simpa using fun h => h2 (t2.2 h), show id = false by simpa using fun h => h3 (t3.2 h), show (s[k] == 34) = false by simpa using fun h => h5 (t5.2 h), show (s[k] == 10) = false by simpa using fun h => h6 (t6.2 h)]; simp
  have Hb2 := kept hb2
  clear t2 t3 t5 t6 hb hb2 h2 h3 h5 h6
  by_cases hn : sn = 0
  · have Hr := kept (show r = false by rw [Hb2.out, hn]; rfl)
    obtain rfl : tx = [] := List.eq_nil_of_length_eq_zero (by rw [Hl.out]; exact hn)
    clear Hl hn
    go_enter Tryd.func26, Tryd.ntmps26
    go_wp2
    go_quiet (fail)
    go_wp2
    go_quiet ((go_at_call 48; exact quietAddSame (Hsg.out _)))
    go_wp2
    go_ret
    exact ⟨ret_bool Hr.out.symm, _, World.drewN_drewN _ _ _⟩
  · have Hr := kept (show r = true by rw [Hb2.out]; simpa using hn)
    have hz1 : tx ≠ [] := by intro h; have := Hl.out; rw [h] at this; simp at this; omega
    have hz2 : tx.isEmpty = false := by cases tx <;> simp_all
    have hz3 : (tx != []) = true := by simpa using hz1
    clear Hl hn
    go_enter Tryd.func26, Tryd.ntmps26
    go_wp2
    go_quiet (fail)
    go_wp2
    go_quiet ((go_at_call 48; exact quietAddSame (Hsg.out _)))
    go_wp2
    go_ret
    exact ⟨ret_bool Hr.out.symm, _, World.drewN_drewN _ _ _⟩

namespace Tok
theorem spanN_at (p : UInt8 → Bool) (s : ByteArray) (j : Nat) (h : j + spanN p (s.data.toList.drop j) < s.size) : p s[j + spanN p (s.data.toList.drop j)] = false := by
  have key : ∀ (l : List UInt8) (h : spanN p l < l.length), p l[spanN p l] = false := by
    intro l
    induction l with
    | nil => intro h; simp at h
    | cons b l ih =>
      intro h
      cases hb : p b with
      | true => 
        simp only [spanN, hb, if_true] at h ⊢
        exact ih (by simpa using h)
      | false => simp only [spanN, hb]; simpa using hb
  have h1 := key (s.data.toList.drop j) (by rw [List.length_drop, show s.data.toList.length = s.size by simp]; omega)
  rw [List.getElem_drop] at h1
  exact h1
/-- What 'skip'  skips: comments too outside of strings. -/
def skipO (o : Int) (l : List UInt8) : Nat := if o < 0 then skipN l else blanksN l
section
variable (o : Int) (s : ByteArray) (j : Nat)
theorem skipO_blank (h : j < s.size) (hb : isBlank s[j] = true) : j + skipO o (s.data.toList.drop j) = (j + 1) + skipO o (s.data.toList.drop (j + 1)) := by
  have h1 := spanN_step isBlank s j h hb
  unfold skipO skipN blanksN
  split
  · rw [drop_drop', drop_drop', h1]; omega
  · omega
theorem skipO_no (h : j < s.size) (hb : isBlank s[j] = false) (hh : s[j] ≠ 35 ∨ ¬ o < 0) : skipO o (s.data.toList.drop j) = 0 := by
  have h1 := spanN_stop isBlank s j h hb
  unfold skipO skipN blanksN
  split
  · rw [h1, List.drop_zero, comment_no s j (fun _ => by rcases hh with hh | hh; exact hh; omega)]
  · exact h1
theorem skipO_end (h : ¬ j < s.size) : skipO o (s.data.toList.drop j) = 0 := by
  rw [drop_end s j h]; unfold skipO; split <;> rfl
theorem skipO_hash (h : j < s.size) (hh : s[j] = 35) (ho : o < 0) :
    j + skipO o (s.data.toList.drop j) = (j + spanN (· != 10) (s.data.toList.drop j)) + skipO o (s.data.toList.drop (j + spanN (· != 10) (s.data.toList.drop j))) := by
  have h1 := spanN_stop isBlank s j h (by rw [hh]; rfl)
  have h2 := comment_at s j h hh
  have h3 : skipO o (s.data.toList.drop (j + spanN (· != 10) (s.data.toList.drop j))) = 0 := by
    by_cases hlt : j + spanN (· != 10) (s.data.toList.drop j) < s.size
    · have h4 := spanN_at (· != 10) s j hlt
      exact skipO_no o s _ hlt (by have : s[j + spanN (· != 10) (s.data.toList.drop j)] = 10 := by simpa using h4
                                   rw [this]; rfl) (.inl (by
                                   have : s[j + spanN (· != 10) (s.data.toList.drop j)] = 10 := by simpa using h4
                                   rw [this]; decide))
    · exact skipO_end o s _ hlt
  rw [h3]
  unfold skipO skipN blanksN
  rw [if_pos ho, h1, List.drop_zero, h2]; omega
end
end Tok
end Go.Proofs.YtbpaeglmanjbfaaDoor
