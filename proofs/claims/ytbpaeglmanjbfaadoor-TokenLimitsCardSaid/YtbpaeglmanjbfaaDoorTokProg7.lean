/- The walk of token's character. -/
import Derived.Test.YtbpaeglmanjbfaaDoorTokProg6
import Derived.Test.YtbpaeglmanjbfaaDoorStrUnq2
import Derived.Deep.RegionWith
import Derived.Lib.TrimUEq
import Derived.Shelf.Unicode.DecodeSlow
namespace Go.Proofs.YtbpaeglmanjbfaaDoor
open Go.RowKit
set_option linter.unusedSimpArgs false
set_option linter.unusedVariables false
theorem decodeGo_drop3 (s : ByteArray) (k : Nat) (h : k < s.size) : Lib.decodeGo (s.extract k s.size) = Lib.decodeL (s.data.toList.drop k) := by
  unfold Lib.decodeGo
  rw [if_neg (by simp; omega), Lib.decodeL, ← Lib.extract_to_end]
def CharEnd (s : ByteArray) (b k n : Nat) (o kd p : Int) (w : World) (e : Ending) (w' : World) : Prop :=
  e = .returned (.bool (decide (n ≠ 0))) ∧ Sc w' b s ((k + n : Nat) : Int) o kd p ∧ w.grownBy w' (some b)
set_option maxRecDepth 100000 in
set_option maxHeartbeats 1000000 in
theorem character_any (w : World) (b : Nat) (s : ByteArray) (k : Nat) (o kd p : Int) (h : Sc w b s k o kd p) (hk : k < s.size) (hs : s.size ≤ 1000000) (hT : Lib.Utf8Tabs 1 2 w) :
    Calls Tryd.prog 68 #[.pointer (some ⟨b, 0, none⟩)] w (CharEnd s b k (Tok.charN (s.data.toList.drop k)) o kd p w) := by
  have hk2 : (k : Int) ≤ s.size := by omega
  obtain ⟨⟨c, n⟩, hd⟩ : ∃ d, Lib.decodeL (s.data.toList.drop k) = d := ⟨_, rfl⟩
  have hdec : Kept (∀ W : World, Lib.Utf8Tabs 1 2 W → Calls Tryd.prog 78 #[.string (s.extract k s.size)] W fun e W' => e = .returned (.tuple #[.int .i32 c, .int .i64 n]) ∧ Below W.heap.size W W') := by
    refine kept fun W gW => ?_
    have h := Tryd.utf8_DecodeRuneInString (s.extract k s.size) W gW
    rw [decodeGo_drop3 s k hk, hd] at h
    exact h
  have hcl := Lib.decodeL_rune (s.data.toList.drop k)
  have hnl := Lib.decodeL_le (s.data.toList.drop k) (Tok.ne_at s k hk)
  have hnw := Lib.decodeL_width (s.data.toList.drop k)
  rw [hd] at hcl hnl hnw
  have hch : Tok.charN (s.data.toList.drop k) = if c < 32 ∨ c = 127 ∨ (c = 65533 ∧ n = 1) then 0 else n := by
    unfold Tok.charN; rw [hd]; simp [Tok.ne_at s k hk]
  rw [List.length_drop, show s.data.toList.length = s.size by simp] at hnl
  have hn1 : 1 ≤ n := hnw
  have hnl1 : n ≤ s.size - k := hnl
  generalize Tok.charN (s.data.toList.drop k) = N at *
  obtain ⟨c0, c1, c2, c3, c4, c5⟩ := h.facts
  have H := kept h; have HT := kept hT; have Hch := kept hch
  clear h hT hch hd hnw hcl hnl
  by_cases h1 : c = 65533
  · subst h1
    by_cases h2 : n = 1
    · subst h2
      have Hn := kept (show N = 0 by rw [Hch.out]; simp)
      clear Hch
      go_enter Tryd.func68, Tryd.ntmps68
      go_wp2
      go_region_with (go_at_call 78; refine (hdec.out w.drew (show Lib.Utf8Tabs 1 2 w.drew from HT.out)).mono ?_; rintro e w1 ⟨rfl, b1⟩)
      all_goals
        have Hs1 := kept (Sc.below (show Sc w.drew b s k o kd p from H.out) b1)
        have Hg1 := kept (grown_trans (grown_below (some b) (bdrew w)) (grown_below (some b) b1))
        clear b1 c0 c1 c2 c3 c4 c5
        obtain ⟨c0, c1, c2, c3, c4, c5⟩ := Hs1.out.facts
        have f1 := Hs1.out.free 1
        go_wp2
        go_ret
        exact ⟨by rw [Hn.out]; rfl, by rw [Hn.out]; exact Hs1.out, Hg1.out⟩
    · have g2 : ((n : Int) == 1) = false := by simp; omega
      have Hn := kept (show N = n by rw [Hch.out, if_neg (by omega)])
      clear Hch
      go_enter Tryd.func68, Tryd.ntmps68
      go_wp2
      go_region_with (go_at_call 78; refine (hdec.out w.drew (show Lib.Utf8Tabs 1 2 w.drew from HT.out)).mono ?_; rintro e w1 ⟨rfl, b1⟩)
      all_goals
        have Hs1 := kept (Sc.below (show Sc w.drew b s k o kd p from H.out) b1)
        have Hg1 := kept (grown_trans (grown_below (some b) (bdrew w)) (grown_below (some b) b1))
        clear b1 c0 c1 c2 c3 c4 c5
        obtain ⟨c0, c1, c2, c3, c4, c5⟩ := Hs1.out.facts
        have f1 := Hs1.out.free 1
        go_wp2
        go_ret
        exact ⟨ret_bool (show true = decide (N ≠ 0) by rw [Hn.out]; simp; omega), by rw [Hn.out]; exact Hs1.out.setAt _, grown_trans Hg1.out (grown_set _ _ _ _)⟩
  have g1 : ((c : Int) == 65533) = false := by simp; omega
  by_cases h2 : c < 32
  · have g2 : (c : Int) < 32 := by omega
    have Hn := kept (show N = 0 by rw [Hch.out, if_pos (.inl h2)])
    clear Hch
    go_enter Tryd.func68, Tryd.ntmps68
    go_wp2
    go_region_with (go_at_call 78; refine (hdec.out w.drew (show Lib.Utf8Tabs 1 2 w.drew from HT.out)).mono ?_; rintro e w1 ⟨rfl, b1⟩)
    all_goals
      have Hs1 := kept (Sc.below (show Sc w.drew b s k o kd p from H.out) b1)
      have Hg1 := kept (grown_trans (grown_below (some b) (bdrew w)) (grown_below (some b) b1))
      clear b1 c0 c1 c2 c3 c4 c5
      obtain ⟨c0, c1, c2, c3, c4, c5⟩ := Hs1.out.facts
      have f1 := Hs1.out.free 1
      go_wp2
      go_ret
      exact ⟨by rw [Hn.out]; rfl, by rw [Hn.out]; exact Hs1.out, Hg1.out⟩
  have g2 : ¬ (c : Int) < 32 := by omega
  have g3 : decide ((c : Int) < 32) = false := by simpa using g2
  by_cases h3 : c = 127
  · subst h3
    have Hn := kept (show N = 0 by rw [Hch.out, if_pos (.inr (.inl rfl))])
    clear Hch
    go_enter Tryd.func68, Tryd.ntmps68
    go_wp2
    go_region_with (go_at_call 78; refine (hdec.out w.drew (show Lib.Utf8Tabs 1 2 w.drew from HT.out)).mono ?_; rintro e w1 ⟨rfl, b1⟩)
    all_goals
      have Hs1 := kept (Sc.below (show Sc w.drew b s k o kd p from H.out) b1)
      have Hg1 := kept (grown_trans (grown_below (some b) (bdrew w)) (grown_below (some b) b1))
      clear b1 c0 c1 c2 c3 c4 c5
      obtain ⟨c0, c1, c2, c3, c4, c5⟩ := Hs1.out.facts
      have f1 := Hs1.out.free 1
      go_wp2
      go_ret
      exact ⟨by rw [Hn.out]; rfl, by rw [Hn.out]; exact Hs1.out, Hg1.out⟩
  · have g4 : ((c : Int) == 127) = false := by simp; omega
    have Hn := kept (show N = n by rw [Hch.out, if_neg (by omega)])
    clear Hch
    go_enter Tryd.func68, Tryd.ntmps68
    go_wp2
    go_region_with (go_at_call 78; refine (hdec.out w.drew (show Lib.Utf8Tabs 1 2 w.drew from HT.out)).mono ?_; rintro e w1 ⟨rfl, b1⟩)
    all_goals
      have Hs1 := kept (Sc.below (show Sc w.drew b s k o kd p from H.out) b1)
      have Hg1 := kept (grown_trans (grown_below (some b) (bdrew w)) (grown_below (some b) b1))
      clear b1 c0 c1 c2 c3 c4 c5
      obtain ⟨c0, c1, c2, c3, c4, c5⟩ := Hs1.out.facts
      have f1 := Hs1.out.free 1
      go_wp2
      go_ret
      exact ⟨ret_bool (show true = decide (N ≠ 0) by rw [Hn.out]; simp; omega), by rw [Hn.out]; exact Hs1.out.setAt _, grown_trans Hg1.out (grown_set _ _ _ _)⟩
end Go.Proofs.YtbpaeglmanjbfaaDoor
