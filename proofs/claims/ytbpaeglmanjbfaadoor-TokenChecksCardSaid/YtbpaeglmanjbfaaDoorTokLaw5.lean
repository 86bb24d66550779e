/- The walks of the law's few, and of TokenBack. -/
import Derived.Test.YtbpaeglmanjbfaaDoorTokLaw1
import Derived.Test.YtbpaeglmanjbfaaDoorTokMade
import Derived.IntWalk
namespace Go.Proofs.YtbpaeglmanjbfaaDoor
open Go.RowKit
set_option linter.unusedSimpArgs false
set_option linter.unusedVariables false
namespace Tok
def fewB (l : List TI) : Bool := decide (l.length ≤ 300 ∧ ∀ i (h : i < l.length), l[i].2.1.length ≤ 300)
theorem few_no (l : List TI) (k : Nat) (hk : k < l.length) (h : 300 < l[k].2.1.length) : fewB l = false := by
  unfold fewB; rw [decide_eq_false_iff_not]; rintro ⟨_, h2⟩; have := h2 k hk; omega
theorem few_end (l : List TI) (k : Nat) (hk : ¬ (k < l.length ∧ k < 300)) (hkl : k ≤ l.length) (h : ∀ i (h : i < l.length), i < k → l[i].2.1.length ≤ 300) : fewB l = decide (l.length ≤ 300) := by
  unfold fewB
  by_cases hl : l.length ≤ 300
  · rw [decide_eq_true hl, decide_eq_true_eq]; exact ⟨hl, fun i hi => h i hi (by omega)⟩
  · rw [decide_eq_false hl, decide_eq_false_iff_not]; rintro ⟨h1, _⟩; exact hl h1
theorem few_small (l : List TI) (h : fewB l = true) : Small l ∧ l.length ≤ 300 ∧ ∀ i (h : i < l.length), l[i].2.1.length ≤ 300 := by
  unfold fewB at h; rw [decide_eq_true_eq] at h
  exact ⟨⟨by omega, fun i hi => by have := h.2 i hi; omega⟩, h.1, h.2⟩
end Tok
set_option maxRecDepth 100000 in
set_option maxHeartbeats 2000000 in
theorem few_any (l : List Tok.TI) (v : Value) (w : World) (hv : ReadsT w v l) (hl : l.length ≤ 9223372036854775807) :
    Calls Tryd.prog 14 #[v] w fun e w' => e = .returned (.bool (Tok.fewB l)) ∧ Below w.heap.size w w' := by
  obtain ⟨a, cap, rfl, _, hc⟩ := hv
  have HC := kept hc
  clear hc
  have Hl := kept hl
  clear hl
  go_enter Tryd.func14, Tryd.ntmps14
  go_wp2
  go_loopw [3] (fun iv wr => ∃ (k n : Nat), k ≤ l.length ∧ k ≤ 300 ∧ iv = .int .i64 k ∧ wr = w.drewN n ∧ (∀ i (h1 : i < l.length), i < k → l[i].2.1.length ≤ 300)) (fun iv _ => 300 - (intOf iv).toNat)
  case atStart => exact ⟨0, 0, by omega, by omega, rfl, rfl, fun i _ h => by omega⟩
  case round =>
    obtain ⟨k, n, hk, hk3, rfl, rfl, hall⟩ := hrel
    have Hall := kept hall; clear hall
    by_cases hlt : k < l.length
    · have hlt' : (k : Int) < l.length := by omega
      by_cases h300 : k < 300
      · have h300' : (k : Int) < 300 := by omega
        obtain ⟨g, off, rfl, c0, c1, c2⟩ := HC.out k hlt
        have Hno := kept (Tok.few_no l k hlt)
        obtain ⟨⟨k1, t1, a1⟩, hx⟩ : ∃ x, l[k] = x := ⟨_, rfl⟩
        rw [hx] at c0 c1 c2 Hno
        have Hx := kept hx
        clear hx
        by_cases ht : 300 < t1.length
        · have ht' : (300 : Int) < t1.length := by omega
          have HR := kept (Hno.out ht)
          go_wp2
          go_ret
          exact ⟨ret_bool HR.out.symm, below_drewN (Below.refl _ _) _⟩
        · have ht' : ¬ (300 : Int) < t1.length := by omega
          go_wp2
          refine ⟨⟨k + 1, _, by omega, by omega, by go_num, rfl, fun i h1 hi => ?_⟩, by simp [intOf]; omega⟩
          by_cases hik : i = k
          · subst hik; rw [Hx.out]; show t1.length ≤ 300; omega
          · exact Hall.out i h1 (by omega)
      · have h300' : ¬ (k : Int) < 300 := by omega
        have HR := kept (Tok.few_end l k (by omega) hk Hall.out)
        go_wp2
        go_ret
        exact ⟨ret_bool (by rw [HR.out, Bool.eq_iff_iff]; simp; omega), below_drewN (Below.refl _ _) _⟩
    · have HR := kept (Tok.few_end l k (by omega) hk Hall.out)
      have hlt' : ¬ (k : Int) < l.length := by omega
      go_wp2
      go_ret
      exact ⟨ret_bool (by rw [HR.out, Bool.eq_iff_iff]; simp; omega), below_drewN (Below.refl _ _) _⟩
set_option maxRecDepth 100000 in
set_option maxHeartbeats 8000000 in
theorem tokenBack_any (l : List Tok.TI) (v : Value) (w : World) (hv : ReadsT w v l) (hl : l.length ≤ 9223372036854775807) (hT : Lib.Utf8Tabs 1 2 w) :
    Calls Tryd.prog 5 #[v] w fun e w' => e = .returned (.bool true) ∧ Below w.heap.size w w' := by
  have HT := kept hT
  have Ha := kept (fun w hT => awake_any w hT)
  have HV := kept hv
  have Hf := kept (few_any l v w hv hl)
  clear hT hv hl
  rcases bool_or (Tok.fewB l) with hf | hf
  · rw [hf] at Hf
    obtain ⟨hsm, hl3, _⟩ := Tok.few_small l hf
    have Hck := kept (fun w (hv : ReadsT w v l) hT => check_any l v w hv hsm hT)
    have Hfm := kept (fun w (hv : ReadsT w v l) => format_any l v w hv hsm)
    have hfl : (Tok.fmt l).length ≤ 3003000 := by have := Tok.fmtN_le l hsm l.length (Nat.le_refl _); show (Tok.fmtN l l.length).length ≤ _; omega
    clear hf
    by_cases hc : Tok.checkZ l = 0
    · obtain ⟨toks, hsc, hsame⟩ := Tok.scan_made l hc (by omega)
      have h64 : (Tok.fmt l).length ≤ 65536 := by
        unfold Tok.checkZ at hc
        split at hc
        · split at hc
          · split at hc
            · omega
            · omega
          · omega
        · omega
      have H1 := kept (fun w hT => scan_any ⟨(Tok.fmt l).toArray⟩ (by rw [size_mk]; omega) w hT)
      rw [show (⟨(Tok.fmt l).toArray⟩ : ByteArray).data.toList = Tok.fmt l from rfl, hsc] at H1
      have htl : toks.length ≤ 16385 := by have := Tok.scan_len (Tok.fmt l); rw [hsc] at this; exact this
      rw [hc] at Hck
      have Hsame := kept hsame
      clear hsc hsame hc hsm h64 hfl
      go_enter Tryd.func5, Tryd.ntmps5
      go_wp2_with fail
      (with_reducible refine (Hf.out).mono ?_); rintro e w1 ⟨rfl, b1⟩
      have B1 := kept b1; clear b1
      have HV1 := kept (HV.out.below B1.out)
      have HT1 := kept (Utf8Tabs_below HT.out B1.out)
      go_wp2_with fail
      (with_reducible refine (Hck.out _ HV1.out HT1.out).mono ?_); rintro e w2 ⟨rfl, b2⟩
      have B2 := kept (bthen B1.out b2)
      have HV2 := kept (HV1.out.below b2)
      have HT2 := kept (Utf8Tabs_below HT.out B2.out)
      clear b2
      go_wp2_with fail
      (with_reducible refine (Hfm.out _ HV2.out).mono ?_); rintro e w3 ⟨rfl, b3⟩
      have B3 := kept (bthen B2.out b3)
      have HV3 := kept (HV2.out.below b3)
      have HT3 := kept (Utf8Tabs_below HT.out B3.out)
      clear b3
      go_wp2_with fail
      (with_reducible refine (H1.out _ HT3.out).mono ?_); rintro e w4 ⟨u, rfl, ho, b4⟩
      have Ho := kept (show OwnsT w4 w3.heap.size u toks from ho)
      have B4 := kept (bthen B3.out b4)
      have HV4 := kept (HV3.out.below b4)
      clear b4 ho
      have B5 := kept (ball w4 (.cells #[.int .i64 0, .int .i64 0, .string ⟨#[]⟩] 26))
      have hdq := diag_eq 0 0 0 0
      have Hs := kept (fun w hv hu => same_any l (Tok.toI toks) v u w hv hu (by omega) (by rw [Tok.toI_length]; omega))
      rw [Hsame.out] at Hs
      go_wp2_with fail
      (with_reducible refine (Hs.out _ (HV4.out.below B5.out) (Ho.out.reads.below B5.out)).mono ?_); rintro e w6 ⟨rfl, b6⟩
      have B6 := kept (bthen (bthen B4.out B5.out) b6)
      clear b6
      go_wp2_with fail
      (with_reducible refine (Ha.out _ (Utf8Tabs_below HT.out B6.out)).mono ?_); rintro e w7 ⟨rfl, b7⟩
      have B7 := kept (bthen B6.out b7)
      clear b7
      go_wp2
      go_ret
      exact ⟨rfl, B7.out⟩
    · have hc' : (Tok.checkZ l != 0) = true := by simpa using hc
      generalize Tok.checkZ l = z at *
      go_enter Tryd.func5, Tryd.ntmps5
      go_wp2_with fail
      (with_reducible refine (Hf.out).mono ?_); rintro e w1 ⟨rfl, b1⟩
      have B1 := kept b1; clear b1
      have HV1 := kept (HV.out.below B1.out)
      have HT1 := kept (Utf8Tabs_below HT.out B1.out)
      go_wp2_with fail
      (with_reducible refine (Hck.out _ HV1.out HT1.out).mono ?_); rintro e w2 ⟨rfl, b2⟩
      have B2 := kept (bthen B1.out b2)
      clear b2
      go_wp2_with fail
      (with_reducible refine (Ha.out _ (Utf8Tabs_below HT.out B2.out)).mono ?_); rintro e w7 ⟨rfl, b7⟩
      have B7 := kept (bthen B2.out b7)
      clear b7
      go_wp2
      go_ret
      exact ⟨rfl, B7.out⟩
  · rw [hf] at Hf
    go_enter Tryd.func5, Tryd.ntmps5
    go_wp2_with fail
    (with_reducible refine (Hf.out).mono ?_); rintro e w1 ⟨rfl, b1⟩
    have B1 := kept b1; clear b1
    go_wp2_with fail
    (with_reducible refine (Ha.out _ (Utf8Tabs_below HT.out B1.out)).mono ?_); rintro e w7 ⟨rfl, b7⟩
    have B7 := kept (bthen B1.out b7)
    clear b7
    go_wp2
    go_ret
    exact ⟨rfl, B7.out⟩
end Go.Proofs.YtbpaeglmanjbfaaDoor
