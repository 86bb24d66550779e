/- The walk of token's skip. -/
import Derived.Test.YtbpaeglmanjbfaaDoorTokProg4
namespace Go.Proofs.YtbpaeglmanjbfaaDoor
open Go.RowKit
set_option linter.unusedSimpArgs false
set_option linter.unusedVariables false
namespace Tok
theorem index_span : ∀ l : List UInt8, (Lib.indexByte l 10 = -1 ∧ spanN (· != 10) l = l.length) ∨ Lib.indexByte l 10 = (spanN (· != 10) l : Int)
  | [] => .inl ⟨rfl, rfl⟩
  | b :: l => by
    have ih := index_span l
    by_cases hb : b = 10
    · subst hb; right; rfl
    · have e1 : spanN (· != 10) (b :: l) = spanN (· != 10) l + 1 := by simp [spanN, hb]
      rw [e1]
      simp only [Lib.indexByte, beq_iff_eq, hb, if_false, List.length_cons]
      rcases ih with ⟨h1, h2⟩ | h1
      · left; simp [h1, h2]
      · right
        rw [h1]
        split
        all_goals omega
end Tok
def SkipEnd (s : ByteArray) (b K : Nat) (o kd p : Int) (w : World) (e : Ending) (w' : World) : Prop :=
  e = .returned (.tuple #[]) ∧ Sc w' b s (K : Int) o kd p ∧ w.grownBy w' (some b)
set_option maxRecDepth 100000 in
set_option maxHeartbeats 1000000 in
theorem skip_any (w : World) (b : Nat) (s : ByteArray) (k : Nat) (o kd p : Int) (h : Sc w b s k o kd p) (hk : k ≤ s.size) (hs : s.size ≤ 1000000) :
    Calls Tryd.prog 24 #[.pointer (some ⟨b, 0, none⟩)] w (SkipEnd s b (k + Tok.skipO o (s.data.toList.drop k)) o kd p w) := by
  obtain ⟨K, hK⟩ : ∃ K, k + Tok.skipO o (s.data.toList.drop k) = K := ⟨_, rfl⟩
  unfold SkipEnd
  rw [hK]
  have H := kept h; have HK := kept hK
  clear h hK
  go_enter Tryd.func24, Tryd.ntmps24
  go_wp2
  go_loopw [] (fun wr => ∃ j : Nat, j ≤ s.size ∧ j + Tok.skipO o (s.data.toList.drop j) = K ∧ Sc wr b s j o kd p ∧ w.grownBy wr (some b)) (fun wr => s.size - scAt wr b)
  case atStart => exact ⟨k, hk, HK.out, H.out, grown_refl _ _⟩
  case round =>
    obtain ⟨j, hj, hK, hS, hG⟩ := hrel
    have Hs := kept hS; have Hg := kept hG; have HK := kept hK
    clear hS hG hK
    have Hm := kept (more_any wr b s j o kd p Hs.out)
    by_cases hlt : j < s.size
    · have hlt' : (j : Int) < s.size := by omega
      have hj2 : (j : Int) ≤ s.size := by omega
      have hd : decide (j < s.size) = true := by simpa using hlt
      rw [hd] at Hm
      clear hd
      have step : ∀ (n : Nat) (x : Int) (w2 : World), (Sc w2 b s j o kd p → w.grownBy w2 (some b) → x = j + n → 0 < n → j + n ≤ s.size → j + Tok.skipO o (s.data.toList.drop j) = (j + n) + Tok.skipO o (s.data.toList.drop (j + n)) → (∃ j' : Nat, j' ≤ s.size ∧ j' + Tok.skipO o (s.data.toList.drop j') = K ∧ Sc (w2.setCell ⟨b, 1, none⟩ (.int .i64 x)) b s j' o kd p ∧ w.grownBy (w2.setCell ⟨b, 1, none⟩ (.int .i64 x)) (some b)) ∧ s.size - scAt (w2.setCell ⟨b, 1, none⟩ (.int .i64 x)) b < s.size - scAt wr b) := by
        intro n x w2 h1 h2 hx hn hle heq
        have h3 := h1.setAt x
        rw [show x = ((j + n : Nat) : Int) by omega] at h3 ⊢
        refine ⟨⟨j + n, hle, by rw [← heq]; exact HK.out, h3, grown_trans h2 (grown_set _ _ _ _)⟩, ?_⟩
        rw [h3.at', Hs.out.at']; omega
      have Hstep := kept step
      clear step
      have hm := s[j].toNat_lt
      have cc := Hs.out.cls s[j].toNat hm
      obtain ⟨_, _, _, _, t7, t1⟩ := Tok.cls_at s[j]
      obtain ⟨m, hmm⟩ : ∃ m, s[j].toNat = m := ⟨_, rfl⟩
      rw [hmm] at cc hm t7 t1
      generalize Tok.clsN m = c at *
      obtain ⟨q, hq⟩ : ∃ q, 2 + m = q := ⟨_, rfl⟩
      rw [hq] at cc
      have hm' : (m : Int) < 256 := by omega
      have T1 := kept t1; have T7 := kept t7
      clear hm t1 t7
      obtain ⟨c0, c1, c2, c3, c4, c5⟩ := Hs.out.facts
      have f1 := Hs.out.free 1
      by_cases hc1 : c = 1
      · have Hst := kept (Tok.skipO_blank o s j hlt (T1.out.1 hc1))
        subst hc1
        clear T1 T7
        go_wp2_with fail
        (with_reducible refine (Hm.out).mono ?_); rintro e w1 ⟨rfl, n1, rfl⟩
        go_wp2
        go_quiet (fail)
        go_wp2
        exact Hstep.out 1 _ _ (Hs.out.draw _) (grown_trans Hg.out (grown_drewN _ _ _)) rfl (by omega) (by omega) Hst.out
      · have g1 : ((c : Int) == 1) = false := by simp; omega
        have hb : Tok.isBlank s[j] = false := by
          rcases bool_or (Tok.isBlank s[j]) with hb | hb
          · exact absurd (T1.out.2 hb) hc1
          · exact hb
        by_cases hc7 : c = 7
        · have h35 := T7.out.1 hc7
          subst hc7
          by_cases ho : o < 0
          · have Hst := kept (Tok.skipO_hash o s j hlt h35 ho)
            have hx := Tok.index_span (s.data.toList.drop j)
            have hsn := Tok.spanN_le (· != 10) (s.data.toList.drop j)
            rw [List.length_drop, show s.data.toList.length = s.size by simp] at hx hsn
            have hsp : 0 < Tok.spanN (· != 10) (s.data.toList.drop j) := by
              rw [Tok.get_cons s j hlt, h35]; simp [Tok.spanN]
            have Hi := kept (fun w => Tryd.strings_IndexByte (s.extract j s.size) 10 w)
            rw [Lib.extract_to_end] at Hi
            have e10 : (10 : Int).toNat.toUInt8 = 10 := rfl
            rw [e10] at Hi
            generalize Tok.spanN (· != 10) (s.data.toList.drop j) = n at *
            generalize Lib.indexByte (s.data.toList.drop j) 10 = z at *
            have Hx := kept hx
            clear hx hb h35 T1 T7 e10
            by_cases hz : z < 0
            · have hn : n = s.size - j := by rcases Hx.out with ⟨_, h⟩ | h <;> omega
              have hw : IntKind.i64.wrap ((s.size : Int) - j) = ((s.size : Int) - j) := IntWalk.i64_in _ (by omega)
              have hw2 : IntKind.i64.wrap ((j : Int) + (s.size - j)) = ((j : Int) + (s.size - j)) := IntWalk.i64_in _ (by omega)
              go_wp2_with fail
              (with_reducible refine (Hm.out).mono ?_); rintro e w1 ⟨rfl, n1, rfl⟩
              go_wp2
              go_quiet (fail)
              go_wp2
              go_quiet ((go_at_call 47; exact quietAddSame (Hi.out _)))
              go_wp2
              go_quiet (fail)
              go_wp2
              exact Hstep.out n _ _ (Hs.out.draw _) (grown_trans Hg.out (grown_drewN _ _ _)) (by omega) hsp (by omega) Hst.out
            · have hzn : z = n := by rcases Hx.out with ⟨h, _⟩ | h <;> omega
              have hw2 : IntKind.i64.wrap ((j : Int) + z) = ((j : Int) + z) := IntWalk.i64_in _ (by omega)
              go_wp2_with fail
              (with_reducible refine (Hm.out).mono ?_); rintro e w1 ⟨rfl, n1, rfl⟩
              go_wp2
              go_quiet (fail)
              go_wp2
              go_quiet ((go_at_call 47; exact quietAddSame (Hi.out _)))
              go_wp2
              exact Hstep.out n _ _ (Hs.out.draw _) (grown_trans Hg.out (grown_drewN _ _ _)) (by omega) hsp (by omega) Hst.out
          · have hKj : K = j := by
              have := HK.out; rw [Tok.skipO_no o s j hlt hb (.inr ho)] at this; omega
            clear hb h35 T1 T7
            go_wp2_with fail
            (with_reducible refine (Hm.out).mono ?_); rintro e w1 ⟨rfl, n1, rfl⟩
            go_wp2
            go_quiet (fail)
            go_wp2
            refine bodyPost_ret (results_none rfl _ _ _) rfl ?_
            exact ⟨rfl, by rw [hKj]; exact Hs.out.draw _, grown_trans Hg.out (grown_drewN _ _ _)⟩
        · have g7 : ((c : Int) == 7) = false := by simp; omega
          have hKj : K = j := by
            have := HK.out; rw [Tok.skipO_no o s j hlt hb (.inl fun h => hc7 (T7.out.2 h))] at this; omega
          clear hb T1 T7
          go_wp2_with fail
          (with_reducible refine (Hm.out).mono ?_); rintro e w1 ⟨rfl, n1, rfl⟩
          go_wp2
          go_quiet (fail)
          go_wp2
          refine bodyPost_ret (results_none rfl _ _ _) rfl ?_
          exact ⟨rfl, by rw [hKj]; exact Hs.out.draw _, grown_trans Hg.out (grown_drewN _ _ _)⟩
    · have hKj : K = j := by
        have := HK.out; rw [Tok.skipO_end o s j hlt] at this; omega
      have hd : decide (j < s.size) = false := by simpa using hlt
      rw [hd] at Hm
      clear hd
      go_wp2_with fail
      (with_reducible refine (Hm.out).mono ?_); rintro e w1 ⟨rfl, n1, rfl⟩
      go_wp2
      first | go_end0 | refine bodyPost_ret (results_none rfl _ _ _) rfl ?_
      exact ⟨rfl, by rw [hKj]; exact Hs.out.draw _, grown_trans Hg.out (grown_drewN _ _ _)⟩
end Go.Proofs.YtbpaeglmanjbfaaDoor
