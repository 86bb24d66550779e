/- The walk of token's run. -/
import Derived.Test.YtbpaeglmanjbfaaDoorTokProg2
import Derived.BigQuiet
namespace Go.Proofs.YtbpaeglmanjbfaaDoor
open Go.RowKit
set_option linter.unusedSimpArgs false
set_option linter.unusedVariables false
/-- Where the scanner in block b stands. -/
def scAt (w : World) (b : Nat) : Nat := match w.cell? ⟨b, 1, none⟩ with | some (.int _ n) => n.toNat | _ => 0
theorem Sc.at' {w : World} {b : Nat} {s : ByteArray} {k : Nat} {o kd p : Int} (h : Sc w b s k o kd p) : scAt w b = k := by
  unfold scAt; rw [h.facts.2.1]; simp
theorem Sc.draw {w : World} {b : Nat} {s : ByteArray} {k o kd p : Int} (h : Sc w b s k o kd p) (n : Nat) : Sc (w.drewN n) b s k o kd p := h
def Tok.clsP (x y : Nat) (c : UInt8) : Bool := Tok.clsN c.toNat == x || Tok.clsN c.toNat == y
def RunEnd (s : ByteArray) (b k n : Nat) (o kd p : Int) (w : World) (e : Ending) (w' : World) : Prop :=
  e = .returned (.string (s.extract k (k + n))) ∧ Sc w' b s ((k + n : Nat) : Int) o kd p ∧ w.grownBy w' (some b)
set_option maxRecDepth 100000 in
set_option maxHeartbeats 1000000 in
theorem run_any (w : World) (b : Nat) (s : ByteArray) (k : Nat) (o kd p : Int) (x y : Nat) (h : Sc w b s k o kd p) (hk : k ≤ s.size) (hs : s.size ≤ 1000000) :
    Calls Tryd.prog 49 #[.pointer (some ⟨b, 0, none⟩), .int .u8 x, .int .u8 y] w (RunEnd s b k (Tok.spanN (Tok.clsP x y) (s.data.toList.drop k)) o kd p w) := by
  obtain ⟨K, hK⟩ : ∃ K, k + Tok.spanN (Tok.clsP x y) (s.data.toList.drop k) = K := ⟨_, rfl⟩
  unfold RunEnd
  rw [hK]
  obtain ⟨c0, c1, c2, c3, c4, c5⟩ := h.facts
  have H := kept h; have HK := kept hK
  clear h hK
  go_enter Tryd.func49, Tryd.ntmps49
  go_wp2
  clear c0 c1 c2 c3 c4 c5
  go_loopw [] (fun wr => ∃ j : Nat, k ≤ j ∧ j ≤ s.size ∧ j + Tok.spanN (Tok.clsP x y) (s.data.toList.drop j) = K ∧ Sc wr b s j o kd p ∧ w.grownBy wr (some b)) (fun wr => s.size - scAt wr b)
  case atStart => exact ⟨k, Nat.le_refl _, hk, HK.out, H.out, grown_refl _ _⟩
  case round =>
    obtain ⟨j, hkj, hj, hK, hS, hG⟩ := hrel
    have Hs := kept hS; have Hg := kept hG; have HK := kept hK
    clear hS hG hK
    by_cases hlt : j < s.size
    · have hlt' : (j : Int) < s.size := by omega
      have Hm := kept (fun n => more_any (wr.drewN n) b s j o kd p (Hs.out.draw n))
      have hd : decide (j < s.size) = true := by simpa using hlt
      rw [hd] at Hm
      clear hd
      obtain ⟨c0, c1, c2, c3, c4, c5⟩ := Hs.out.facts
      have hm := s[j].toNat_lt
      have cc := Hs.out.cls s[j].toNat hm
      have HA := kept Hs.out.at'
      have Hst := kept (fun hp => Tok.spanN_step (Tok.clsP x y) s j hlt hp)
      have Hsp := kept (fun hp => Tok.spanN_stop (Tok.clsP x y) s j hlt hp)
      have hcp : Tok.clsP x y s[j] = (Tok.clsN s[j].toNat == x || Tok.clsN s[j].toNat == y) := rfl
      rw [hcp] at Hst Hsp
      clear hcp
      obtain ⟨m, hmm⟩ : ∃ m, s[j].toNat = m := ⟨_, rfl⟩
      rw [hmm] at cc hm Hst Hsp
      obtain ⟨c, hc⟩ : ∃ c, Tok.clsN m = c := ⟨_, rfl⟩
      rw [hc] at cc Hst Hsp
      clear hc
      obtain ⟨q, hq⟩ : ∃ q, 2 + m = q := ⟨_, rfl⟩
      rw [hq] at cc
      have hm' : (m : Int) < 256 := by omega
      have f1 := Hs.out.free 1
      clear hm
      have step : ∀ nq, (c == x || c == y) = true → (∃ j' : Nat, k ≤ j' ∧ j' ≤ s.size ∧ j' + Tok.spanN (Tok.clsP x y) (s.data.toList.drop j') = K ∧ Sc ((wr.drewN nq).setCell ⟨b, 1, none⟩ (.int .i64 ((j : Int) + 1))) b s j' o kd p ∧ w.grownBy ((wr.drewN nq).setCell ⟨b, 1, none⟩ (.int .i64 ((j : Int) + 1))) (some b)) ∧ s.size - scAt ((wr.drewN nq).setCell ⟨b, 1, none⟩ (.int .i64 ((j : Int) + 1))) b < s.size - scAt wr b := by
        intro nq hcc
        have h1 := (Hs.out.draw nq).setAt ((j : Int) + 1)
        have h2 := Hst.out hcc
        refine ⟨⟨j + 1, by omega, by omega, by rw [← h2]; exact HK.out, h1, grown_trans (grown_trans Hg.out (grown_drewN _ _ _)) (grown_set _ _ _ _)⟩, ?_⟩
        have h3 := Sc.at' (k := j + 1) h1
        rw [h3, HA.out]; omega
      have Hstep := kept step
      clear step
      by_cases hx : c = x
      · subst hx
        go_wp2
        go_quiet ((go_at_call 25; exact Calls.quiet_of (Hm.out _)))
        go_wp2
        exact Hstep.out _ (by simp)
      · have gx : ((c : Int) == (x : Int)) = false := by simp; omega
        by_cases hy : c = y
        · subst hy
          go_wp2
          go_quiet ((go_at_call 25; exact Calls.quiet_of (Hm.out _)))
          go_wp2
          exact Hstep.out _ (by simp)
        · have gy : ((c : Int) == (y : Int)) = false := by simp; omega
          have h0 := Hsp.out (by simp [hx, hy])
          have hKj : K = j := by have := HK.out; omega
          go_wp2
          go_quiet ((go_at_call 25; exact Calls.quiet_of (Hm.out _)))
          go_wp2
          have hj2 : (j : Int) ≤ s.size := by omega
          have hkj2 : (k : Int) ≤ j := by omega
          go_quiet (fail)
          go_wp2
          go_ret
          exact ⟨by rw [hKj]; rfl, by rw [hKj]; exact Hs.out, grown_trans (grown_trans Hg.out (grown_drewN _ _ _)) (grown_drewN _ _ _)⟩
    · have h0 := Tok.spanN_end (Tok.clsP x y) s j hlt
      have hKj : K = j := by have := HK.out; omega
      have Hm := kept (fun n => more_any (wr.drewN n) b s j o kd p (Hs.out.draw n))
      have hd : decide (j < s.size) = false := by simpa using hlt
      rw [hd] at Hm
      clear hd
      obtain ⟨c0, c1, c2, c3, c4, c5⟩ := Hs.out.facts
      go_wp2
      go_quiet ((go_at_call 25; exact Calls.quiet_of (Hm.out _)))
      go_wp2
      have hj2 : (j : Int) ≤ s.size := by omega
      have hkj2 : (k : Int) ≤ j := by omega
      go_quiet (fail)
      go_wp2
      go_ret
      exact ⟨by rw [hKj]; rfl, by rw [hKj]; exact Hs.out, grown_trans (grown_trans Hg.out (grown_drewN _ _ _)) (grown_drewN _ _ _)⟩
end Go.Proofs.YtbpaeglmanjbfaaDoor
