/- The walk of token's token. -/
import Derived.Test.YtbpaeglmanjbfaaDoorTokProg9
import Derived.IntWalk
import Derived.BigRegion
namespace Go.Proofs.YtbpaeglmanjbfaaDoor
open Go.RowKit
set_option linter.unusedSimpArgs false
set_option linter.unusedVariables false
theorem Tri.grown {w w' : World} {g b : Nat} {T : TypeId} {x y z : Value} (h : Tri w g T x y z) (hg : w.grownBy w' (some b)) (hne : g ≠ b) : Tri w' g T x y z :=
  (hg.block g (Array.getElem?_eq_some_iff.1 h).1 (fun he => hne (by injection he))).trans h
theorem grown_set_new {w W : World} {b g : Nat} (h : w.grownBy W (some b)) (hg : w.heap.size ≤ g) (i : Nat) (v : Value) : w.grownBy (W.setCell ⟨g, i, none⟩ v) (some b) :=
  ⟨h.os, h.tape, h.output, by simpa [World.setCell] using h.size, fun k hk hne => (heap_setCell_other W ⟨g, i, none⟩ k v (by show k ≠ g; omega)).trans (h.block k hk hne)⟩
theorem Sc.drew' {w : World} {b : Nat} {s : ByteArray} {k o kd p : Int} (h : Sc w b s k o kd p) : Sc w.drew b s k o kd p := h
theorem Sc.setOther {w : World} {b g i : Nat} {s : ByteArray} {k o kd p : Int} (h : Sc w b s k o kd p) (hne : b ≠ g) (v : Value) : Sc (w.setCell ⟨g, i, none⟩ v) b s k o kd p := (heap_setCell_other w ⟨g, i, none⟩ b v hne).trans h
theorem Tri.set0 {w : World} {g : Nat} {T : TypeId} {x y z : Value} (h : Tri w g T x y z) (u : Value) : Tri (w.setCell ⟨g, 0, none⟩ u) g T u y z := heap_setCell_same w g 0 _ _ u h
theorem Tri.set01 {w : World} {g : Nat} {T : TypeId} {x y z : Value} (h : Tri w g T x y z) (u v : Value) : Tri ((w.setCell ⟨g, 0, none⟩ u).setCell ⟨g, 1, none⟩ v) g T u v z := by
  have h1 := heap_setCell_same w g 0 _ _ u h
  have h2 := heap_setCell_same _ g 1 _ _ v h1
  exact h2
theorem Tri.setOther {w : World} {g g' i : Nat} {T : TypeId} {x y z : Value} (h : Tri w g T x y z) (hne : g ≠ g') (v : Value) : Tri (w.setCell ⟨g', i, none⟩ v) g T x y z := (heap_setCell_other w ⟨g', i, none⟩ g v hne).trans h
theorem grown_set3 {w W : World} {b g : Nat} (h : w.grownBy W (some b)) (hg : w.heap.size ≤ g) (x y z : Value) : w.grownBy (((W.setCell ⟨g, 0, none⟩ x).setCell ⟨g, 1, none⟩ y).setCell ⟨g, 2, none⟩ z) (some b) := grown_set_new (grown_set_new (grown_set_new h hg 0 x) hg 1 y) hg 2 z
theorem Sc.set3 {w : World} {b g : Nat} {s : ByteArray} {k o kd p : Int} (h : Sc w b s k o kd p) (hne : b ≠ g) (x y z : Value) : Sc (((w.setCell ⟨g, 0, none⟩ x).setCell ⟨g, 1, none⟩ y).setCell ⟨g, 2, none⟩ z) b s k o kd p := ((h.setOther hne x).setOther hne y).setOther hne z
theorem tokEnd_ok {s : ByteArray} {b k n : Nat} {o kd p q a : Int} {t : List UInt8} {r : Tok.R} {w w' : World} (hr : r = .ok n) (ha : a = Tok.kindL (s.data.toList.drop k)) (ht : t = Tok.textL (s.data.toList.drop k) n) (hg : w.grownBy w' (some b)) (hs : Sc w' b s ((k + n : Nat) : Int) o kd p) :
    TokEnd s b k o kd p q r w (.returned (.tuple #[.agg #[.int .i64 a, .string ⟨t.toArray⟩, .int .i64 k], .bool true])) w' := by
  subst hr; exact ⟨⟨a, t, k, rfl, fun n' hn => by injection hn with hn; subst hn; exact ⟨ha, ht, rfl⟩⟩, hg, hs⟩
theorem tokEnd_err {s : ByteArray} {b k x : Nat} {o kd p q a e c k' o' : Int} {t : List UInt8} {r : Tok.R} {w w' : World} (hr : r = .err e x) (hg : w.grownBy w' (some b)) (hs : Sc w' b s k' o' e ((k + x : Nat) : Int)) :
    TokEnd s b k o kd p q r w (.returned (.tuple #[.agg #[.int .i64 a, .string ⟨t.toArray⟩, .int .i64 c], .bool false])) w' := by
  subst hr; exact ⟨⟨a, t, c, rfl, fun n' hn => by cases hn⟩, hg, k', o', hs⟩
theorem tokEnd_trunc {s : ByteArray} {b k : Nat} {o kd p q a c k' o' : Int} {t : List UInt8} {r : Tok.R} {w w' : World} (hr : r = .trunc) (hg : w.grownBy w' (some b)) (hs : Sc w' b s k' o' 40 q) :
    TokEnd s b k o kd p q r w (.returned (.tuple #[.agg #[.int .i64 a, .string ⟨t.toArray⟩, .int .i64 c], .bool false])) w' := by
  subst hr; exact ⟨⟨a, t, c, rfl, fun n' hn => by cases hn⟩, hg, k', o', hs⟩
/-- Two blocks of a token more. -/
abbrev tw2 (w : World) (k : Int) : World := (w.alloc (.cells #[.int .i64 0, .string ⟨#[]⟩, .int .i64 0] 36)).alloc (.cells #[.int .i64 0, .string ⟨#[]⟩, .int .i64 k] 36)
namespace Tok
theorem spanN_congr (p q : UInt8 → Bool) (h : ∀ b, p b = q b) (l : List UInt8) : spanN p l = spanN q l := by
  rw [show p = q from funext h]
theorem span_letter (l : List UInt8) : spanN (clsP 2 3) l = spanN (fun c => isLetter c || isDigit c) l := by
  refine spanN_congr _ _ (fun b => ?_) l
  obtain ⟨l2, l3, _⟩ := cls_at b
  unfold clsP
  rw [Bool.eq_iff_iff]
  simp only [Bool.or_eq_true, beq_iff_eq, l2, l3]
theorem span_digit (l : List UInt8) : spanN (clsP 3 3) l = spanN isDigit l := by
  refine spanN_congr _ _ (fun b => ?_) l
  obtain ⟨_, l3, _⟩ := cls_at b
  unfold clsP
  rw [Bool.eq_iff_iff]
  simp only [Bool.or_eq_true, beq_iff_eq, l3, or_self]
end Tok
set_option maxRecDepth 100000 in
set_option maxHeartbeats 4000000 in
theorem token_of (src : List UInt8 → Tok.R) (d : Nat) (s : ByteArray) (hs : s.size ≤ 1000000) (b : Nat) (hb : 2 < b) (o kd p q : Int)
    (k : Nat) (hk : k < s.size) (w : World) (h : Sc w b s k o kd p) (hT : Lib.Utf8Tabs 1 2 w) (hbg : Tok.beginsB (s.data.toList.drop k) = true)
    (hsrc : s[k] = 34 → ∀ w : World, Sc w b s k o kd p → Lib.Utf8Tabs 1 2 w → Calls Tryd.prog 51 #[.pointer (some ⟨b, 0, none⟩), .int .i64 d] w (BoolEnd s b k o kd p q (Tok.strR (src (s.data.toList.drop (k + 1)))) w))
    (hfit : ∀ n, src (s.data.toList.drop (k + 1)) = .ok n → k + 1 + n < s.size) :
    Calls Tryd.prog 27 #[.pointer (some ⟨b, 0, none⟩), .int .i64 d] w (TokEnd s b k o kd p q (Tok.oneW src (s.data.toList.drop k)) w) := by
  obtain ⟨U, hU⟩ : ∃ U, U = Tok.oneW src (s.data.toList.drop k) := ⟨_, rfl⟩
  rw [← hU]
  have hbl := h.lt
  obtain ⟨t1, t2, hb2⟩ := two_at w 36 36 (.int .i64 0) (.string ⟨#[]⟩) (.int .i64 0) (.int .i64 0) (.string ⟨#[]⟩) (.int .i64 k)
  have hk2 := Sc.below h hb2
  have HB2 := kept hb2
  have HT1 := kept t1; have HT2 := kept t2; have HK2 := kept hk2; have HT := kept hT
  obtain ⟨d0, d1, d2, d3, d4, d5⟩ := h.facts
  obtain ⟨c0, c1, c2, c3, c4, c5⟩ := hk2.facts
  obtain ⟨x0, x1, x2, y0, y1, y2⟩ := t1.facts
  obtain ⟨x3, x4, x5, y3, y4, y5⟩ := t2.facts
  have f1 := hk2.free 1; have e1 := h.free 1
  have hm := s[k].toNat_lt
  have cd := h.cls s[k].toNat hm
  have cc := hk2.cls s[k].toNat hm
  obtain ⟨l2, l3, l5, l6, _, _⟩ := Tok.cls_at s[k]
  obtain ⟨m, hmm⟩ : ∃ m, s[k].toNat = m := ⟨_, rfl⟩
  rw [hmm] at cc cd hm l2 l3 l5 l6
  generalize Tok.clsN m = c at *
  obtain ⟨z, hz⟩ : ∃ z, 2 + m = z := ⟨_, rfl⟩
  rw [hz] at cc cd
  have hlt' : (k : Int) < s.size := by omega
  have hm' : (m : Int) < 256 := by omega
  clear hm t1 t2 hk2 hb2
  by_cases h6 : c = 6
  · have h10 := l6.1 h6
    subst h6
    have HR := kept (hU.trans (Tok.one_nl src s k hk h10))
    have HK := kept (show Tok.kindL (s.data.toList.drop k) = 5 by rw [Tok.kindL_at s k hk, h10]; rfl)
    have HX := kept (show Tok.textL (s.data.toList.drop k) 1 = [10] by rw [Tok.textL_no s k hk 1 (by rw [h10]; decide), Tok.get_cons s k hk, h10]; rfl)
    clear hU l2 l3 l5 l6 hbg hsrc hfit h10 h hT
    go_enter Tryd.func27, Tryd.ntmps27
    go_wp2
    go_quiet (fail)
    go_wp2
    refine bodyPost_ret (v := .tuple #[.agg #[.int .i64 5, .string ⟨#[10]⟩, .int .i64 k], .bool true]) (by simp [results, Tryd.results27, go_sem]) rfl ?_
    exact tokEnd_ok HR.out HK.out.symm HX.out.symm (grown_set3 (grown_trans (grown_set_new (grown_set_new (grown_trans (grown_below _ HB2.out) (grown_drewN _ nq _)) (by omega) _ _) (by omega) _ _) (grown_set _ b 1 _)) (Nat.le_refl _) _ _ _)
      (((((HK2.out.draw nq).setOther (by omega) _).setOther (by omega) _).setAt _).set3 (by omega) _ _ _)
  have g6 : ((c : Int) == 6) = false := by simp; omega
  have h10 : s[k] ≠ 10 := fun h => h6 (l6.2 h)
  by_cases h2 : c = 2
  · have hl := l2.1 h2
    subst h2
    have hx := hU.trans (Tok.one_letter src s k hk h10 hl)
    have h34 : s[k] ≠ 34 := by intro h; rw [h] at hl; exact absurd hl (by decide)
    have HK := kept (show Tok.kindL (s.data.toList.drop k) = 1 by rw [Tok.kindL_at s k hk]; unfold Tok.kindOf; rw [if_neg h10, hl]; rfl)
    have HX := kept (fun n => Tok.textL_no s k hk n h34)
    have Hrun : Kept (∀ w : World, Sc w b s k o kd p → Calls Tryd.prog 49 #[.pointer (some ⟨b, 0, none⟩), .int .u8 2, .int .u8 3] w (RunEnd s b k (Tok.spanN (fun c => Tok.isLetter c || Tok.isDigit c) (s.data.toList.drop k)) o kd p w)) := by
      refine kept fun w h => ?_
      have := run_any w b s k o kd p 2 3 h (by omega) hs
      rwa [Tok.span_letter] at this
    have hsn := Tok.spanN_le (fun c => Tok.isLetter c || Tok.isDigit c) (s.data.toList.drop k)
    rw [List.length_drop, show s.data.toList.length = s.size by simp] at hsn
    generalize Tok.spanN (fun c => Tok.isLetter c || Tok.isDigit c) (s.data.toList.drop k) = n at *
    unfold RunEnd at Hrun
    rw [Tok.extract_take] at Hrun
    have hlen : ((s.data.toList.drop k).take n).length = n := by rw [List.length_take, List.length_drop, show s.data.toList.length = s.size by simp]; omega
    clear hU l2 l3 l5 l6 hbg hsrc hfit h10 h hT hl h34 h6
    obtain ⟨tx, htx⟩ : ∃ tx, (s.data.toList.drop k).take n = tx := ⟨_, rfl⟩
    have HX2 := kept ((HX.out n).trans htx)
    rw [htx] at Hrun hlen
    have Hlen := kept hlen
    have Hx := kept hx
    clear HX htx hlen hx
    go_enter Tryd.func27, Tryd.ntmps27
    go_wp2
    go_quiet (fail)
    go_wp2_with fail
    (with_reducible refine (Hrun.out _ (HK2.out.draw _)).mono ?_); rintro e w4 ⟨rfl, s4, g4⟩
    have S4 := kept s4
    have T4 := kept (Tri.grown HT2.out (grown_trans (grown_drewN _ nq (some b)) g4) (by omega))
    have T3 := kept (Tri.grown HT1.out (grown_trans (grown_drewN _ nq (some b)) g4) (by omega))
    have G4 := kept (grown_trans (grown_trans (grown_below (some b) HB2.out) (grown_drewN _ nq (some b))) g4)
    have hsz4 : w.heap.size + 1 < w4.heap.size := by
      have h1 := g4.size
      have h2 : (World.drewN ((w.alloc (.cells #[.int .i64 0, .string ⟨#[]⟩, .int .i64 0] 36)).alloc (.cells #[.int .i64 0, .string ⟨#[]⟩, .int .i64 k] 36)) nq).heap.size = w.heap.size + 2 := by simp [World.drewN]
      omega
    clear s4 g4 c0 c1 c2 c3 c4 c5 d0 d1 d2 d3 d4 d5 x0 x1 x2 x3 x4 x5 y0 y1 y2 y3 y4 y5 f1 e1 cc cd
    obtain ⟨c0, c1, c2, c3, c4, c5⟩ := S4.out.facts
    obtain ⟨x0, x1, x2, y0, y1, y2⟩ := T3.out.facts
    obtain ⟨x3, x4, x5, y3, y4, y5⟩ := T4.out.facts
    have f1 := S4.out.free 1
    by_cases hbig : 64 < n
    · have hbig' : (64 : Int) < n := by omega
      have HR := kept (show U = .err 7 0 by rw [Hx.out, if_pos hbig])
      clear Hx hbig
      have hsz5 : w.heap.size < w4.heap.size := by omega
      have hlen2 := Hlen.out
      go_wp2
      obtain ⟨w5, hw5⟩ : ∃ w5, w5 = ((w4.setCell ⟨w.heap.size + 1, 0, none⟩ (.int .i64 1)).setCell ⟨w.heap.size + 1, 1, none⟩ (.string ⟨tx.toArray⟩)) := ⟨_, rfl⟩
      have S5 := kept (show Sc w5.drew b s ((k + n : Nat) : Int) o kd p by rw [hw5]; exact (S4.out.setOther (by omega) _).setOther (by omega) _)
      have T5 := kept (show Tri w5.drew w.heap.size 36 (.int .i64 0) (.string ⟨#[]⟩) (.int .i64 0) by rw [hw5]; exact (T3.out.setOther (by omega) _).setOther (by omega) _)
      have T7 := (show Tri w5 (w.heap.size + 1) 36 (.int .i64 1) (.string ⟨tx.toArray⟩) (.int .i64 k) by rw [hw5]; exact T4.out.set01 _ _)
      have G5 := kept (show w.grownBy w5.drew (some b) by rw [hw5]; exact grown_trans (grown_set_new (grown_set_new G4.out (by omega) _ _) (by omega) _ _) (grown_below _ (bdrew _)))
      have hsz5 : w.heap.size + 1 < w5.heap.size := by rw [hw5]; simpa [World.setCell] using hsz4
      rw [← hw5]
      clear hw5 c0 c1 c2 c3 c4 c5 x0 x1 x2 x3 x4 x5 y0 y1 y2 y3 y4 y5 f1
      obtain ⟨x3, x4, x5, y3, y4, y5⟩ := T7.facts
      have hgb1 : w.heap.size ≠ b := by omega
      have hgb2 : w.heap.size + 1 ≠ b := by omega
      have T7d := kept (show Tri w5.drew (w.heap.size + 1) 36 (.int .i64 1) (.string ⟨tx.toArray⟩) (.int .i64 k) from T7)
      go_region_with (go_at_call 50; refine (fail_any _ _ _ _ _ _ _ _ _ S5.out).mono ?_; rintro e w6 ⟨rfl, s6, g6⟩; obtain ⟨x0, x1, x2, y0, y1, y2⟩ := (T5.out.grown g6 hgb1).facts; obtain ⟨x6, x7, x8, y6, y7, y8⟩ := (T7d.out.grown g6 hgb2).facts; have hsz6 := g6.size)
      all_goals
        have hsz7 : w.heap.size < w6.heap.size := by have := g6.size; have e : w5.drew.heap.size = w5.heap.size := rfl; omega
        have hsz8 : w.heap.size + 1 < w6.heap.size := by have := g6.size; have e : w5.drew.heap.size = w5.heap.size := rfl; omega
        go_wp2
        refine bodyPost_ret (v := .tuple #[.agg #[.int .i64 1, .string ⟨tx.toArray⟩, .int .i64 k], .bool false]) (by simp [hsz7, hsz8, x0, x1, x2, results, Tryd.results27, go_sem]) rfl ?_
        exact tokEnd_err HR.out (grown_set3 (grown_trans G5.out g6) (Nat.le_refl _) _ _ _) (Sc.set3 (show Sc w6 b s _ o 7 ((k + 0 : Nat) : Int) from s6) (by omega) _ _ _)
    · have hbig' : ¬ (64 : Int) < n := by omega
      have HR := kept (show U = .ok n by rw [Hx.out, if_neg hbig])
      clear Hx hbig
      have hlen2 := Hlen.out
      go_wp2
      refine bodyPost_ret (v := .tuple #[.agg #[.int .i64 1, .string ⟨tx.toArray⟩, .int .i64 k], .bool true]) (by simp [hsz4, c0, x0, x1, x2, x3, x4, x5, results, Tryd.results27, go_sem]) rfl ?_
      exact tokEnd_ok HR.out HK.out.symm HX2.out.symm (grown_set3 (grown_set_new (grown_set_new G4.out (by omega) _ _) (by omega) _ _) (Nat.le_refl _) _ _ _) (((S4.out.setOther (by omega) _).setOther (by omega) _).set3 (by omega) _ _ _)
  have g2 : ((c : Int) == 2) = false := by simp; omega
  have hl0 : Tok.isLetter s[k] = false := by
    rcases bool_or (Tok.isLetter s[k]) with hb | hb
    · exact absurd (l2.2 hb) h2
    · exact hb
  by_cases h3 : c = 3
  · have hl := l3.1 h3
    subst h3
    have hx := hU.trans (Tok.one_digit src s k hk h10 hl0 hl)
    have h34 : s[k] ≠ 34 := by intro h; rw [h] at hl; exact absurd hl (by decide)
    have HK := kept (show Tok.kindL (s.data.toList.drop k) = 2 by rw [Tok.kindL_at s k hk]; unfold Tok.kindOf; rw [if_neg h10, hl0, hl]; rfl)
    have HX := kept (fun n => Tok.textL_no s k hk n h34)
    have Hrun : Kept (∀ w : World, Sc w b s k o kd p → Calls Tryd.prog 49 #[.pointer (some ⟨b, 0, none⟩), .int .u8 3, .int .u8 3] w (RunEnd s b k (Tok.spanN Tok.isDigit (s.data.toList.drop k)) o kd p w)) := by
      refine kept fun w h => ?_
      have := run_any w b s k o kd p 3 3 h (by omega) hs
      rwa [Tok.span_digit] at this
    have hsn := Tok.spanN_le Tok.isDigit (s.data.toList.drop k)
    rw [List.length_drop, show s.data.toList.length = s.size by simp] at hsn
    generalize Tok.spanN Tok.isDigit (s.data.toList.drop k) = n at *
    unfold RunEnd at Hrun
    rw [Tok.extract_take] at Hrun
    have hlen : ((s.data.toList.drop k).take n).length = n := by rw [List.length_take, List.length_drop, show s.data.toList.length = s.size by simp]; omega
    clear hU l2 l3 l5 l6 hbg hsrc hfit h10 h hT hl hl0 h34 h6 h2
    obtain ⟨tx, htx⟩ : ∃ tx, (s.data.toList.drop k).take n = tx := ⟨_, rfl⟩
    have HX2 := kept ((HX.out n).trans htx)
    rw [htx] at Hrun hlen
    have Hlen := kept hlen
    have Hx := kept hx
    clear HX htx hlen hx
    go_enter Tryd.func27, Tryd.ntmps27
    go_wp2
    go_quiet (fail)
    go_wp2_with fail
    (with_reducible refine (Hrun.out _ (HK2.out.draw _)).mono ?_); rintro e w4 ⟨rfl, s4, g4⟩
    have S4 := kept s4
    have T4 := kept (Tri.grown HT2.out (grown_trans (grown_drewN _ nq (some b)) g4) (by omega))
    have T3 := kept (Tri.grown HT1.out (grown_trans (grown_drewN _ nq (some b)) g4) (by omega))
    have G4 := kept (grown_trans (grown_trans (grown_below (some b) HB2.out) (grown_drewN _ nq (some b))) g4)
    have hsz4 : w.heap.size + 1 < w4.heap.size := by
      have h1 := g4.size
      have h2 : (World.drewN ((w.alloc (.cells #[.int .i64 0, .string ⟨#[]⟩, .int .i64 0] 36)).alloc (.cells #[.int .i64 0, .string ⟨#[]⟩, .int .i64 k] 36)) nq).heap.size = w.heap.size + 2 := by simp [World.drewN]
      omega
    clear s4 g4 c0 c1 c2 c3 c4 c5 d0 d1 d2 d3 d4 d5 x0 x1 x2 x3 x4 x5 y0 y1 y2 y3 y4 y5 f1 e1 cc cd
    obtain ⟨c0, c1, c2, c3, c4, c5⟩ := S4.out.facts
    obtain ⟨x0, x1, x2, y0, y1, y2⟩ := T3.out.facts
    obtain ⟨x3, x4, x5, y3, y4, y5⟩ := T4.out.facts
    have f1 := S4.out.free 1
    have HR := kept (show U = .ok n from Hx.out)
    clear Hx
    have hsz5 : w.heap.size < w4.heap.size := by omega
    go_wp2
    refine bodyPost_ret (v := .tuple #[.agg #[.int .i64 2, .string ⟨tx.toArray⟩, .int .i64 k], .bool true]) (by simp [hsz4, c0, x0, x1, x2, x3, x4, x5, results, Tryd.results27, go_sem]) rfl ?_
    exact tokEnd_ok HR.out HK.out.symm HX2.out.symm (grown_set3 (grown_set_new (grown_set_new G4.out (by omega) _ _) (by omega) _ _) (Nat.le_refl _) _ _ _) (((S4.out.setOther (by omega) _).setOther (by omega) _).set3 (by omega) _ _ _)
  have g3 : ((c : Int) == 3) = false := by simp; omega
  have hd0 : Tok.isDigit s[k] = false := by
    rcases bool_or (Tok.isDigit s[k]) with hb | hb
    · exact absurd (l3.2 hb) h3
    · exact hb
  by_cases h5 : c = 5
  · have h34 := l5.1 h5
    subst h5
    have hx := hU.trans (Tok.one_string src s k hk h34)
    have HK := kept (show Tok.kindL (s.data.toList.drop k) = 3 by rw [Tok.kindL_at s k hk, h34]; rfl)
    have HX := kept (fun n => Tok.textL_str s k hk n h34)
    have Hsrc := kept (hsrc h34)
    have Hfit := kept hfit
    obtain ⟨r, hr⟩ : ∃ r, src (s.data.toList.drop (k + 1)) = r := ⟨_, rfl⟩
    rw [hr] at hx Hsrc Hfit
    have Hx := kept hx
    clear hU l2 l3 l5 l6 hbg hsrc hfit h10 h hT h34 h6 h2 h3 hl0 hd0 hx hr
    have S2 := kept (fun n => (HK2.out.draw n).setOther (g := w.heap.size + 1) (i := 0) (by omega) (.int .i64 3))
    have G2 := kept (fun n => grown_set_new (grown_trans (grown_below (some b) HB2.out) (grown_drewN _ n (some b))) (by omega : w.heap.size ≤ w.heap.size + 1) 0 (.int .i64 3))
    have TB2 := kept (fun n => tabs_grown HT.out hb (G2.out n))
    have U1 := kept (fun n : Nat => Tri.set0 (w := World.drewN (tw2 w k) n) HT2.out (.int .i64 3))
    have U0 := kept (fun n : Nat => Tri.setOther (w := World.drewN (tw2 w k) n) (g' := w.heap.size + 1) (i := 0) HT1.out (by omega) (.int .i64 3))
    have hszq := kept (fun n : Nat => show (World.setCell (World.drewN ((w.alloc (.cells #[.int .i64 0, .string ⟨#[]⟩, .int .i64 0] 36)).alloc (.cells #[.int .i64 0, .string ⟨#[]⟩, .int .i64 k] 36)) n) ⟨w.heap.size + 1, 0, none⟩ (.int .i64 3)).heap.size = w.heap.size + 2 by simp [World.setCell, World.drewN])
    cases r with
    | ok n =>
      have HR := kept (show U = .ok (n + 2) from Hx.out)
      have hf := Hfit.out n rfl
      have hw1 : IntKind.i64.wrap ((k : Int) + 1) = (k : Int) + 1 := IntWalk.i64_in _ (by omega)
      have hw2 : IntKind.i64.wrap (((k + (n + 2) : Nat) : Int) - 1) = (k : Int) + 1 + n := by rw [IntWalk.i64_in _ (by omega)]; omega
      have hx1 := Tok.extract_take s (k + 1) n
      have Hx1 := kept hx1
      have hb1 : (k : Int) + 1 ≤ (k : Int) + 1 + n := by omega
      have hb2 : (k : Int) + 1 + n ≤ s.size := by omega
      have hb3 : 0 ≤ (k : Int) + 1 := by omega
      have e1 : ((k : Int) + 1).toNat = k + 1 := by omega
      have e2 : ((k : Int) + 1 + n).toNat = k + 1 + n := by omega
      have Hw := kept (And.intro hw1 (And.intro hw2 (And.intro hx1 (And.intro e1 e2))))
      clear hw1 hw2 hx1 e1 e2 Hx
      go_enter Tryd.func27, Tryd.ntmps27
      go_wp2
      go_quiet (fail)
      go_wp2_with fail
      (with_reducible refine (Hsrc.out _ (S2.out nq) (TB2.out nq)).mono ?_); rintro e w4 ⟨rfl, g4, s4⟩
      have S4 := kept s4
      have T4 := kept (Tri.grown (U1.out nq) g4 (by omega))
      have T3 := kept (Tri.grown (U0.out nq) g4 (by omega))
      have G4 := kept (grown_trans (G2.out nq) g4)
      have hsz4 : w.heap.size + 1 < w4.heap.size := by have h1 := g4.size; rw [hszq.out] at h1; omega
      clear s4 g4 c0 c1 c2 c3 c4 c5 d0 d1 d2 d3 d4 d5 x0 x1 x2 x3 x4 x5 y0 y1 y2 y3 y4 y5 f1 e1 cc cd
      obtain ⟨c0, c1, c2, c3, c4, c5⟩ := S4.out.facts
      obtain ⟨x0, x1, x2, y0, y1, y2⟩ := T3.out.facts
      obtain ⟨x3, x4, x5, y3, y4, y5⟩ := T4.out.facts
      obtain ⟨hw1, hw2, hx1, e1, e2⟩ := Hw.out
      have hsz5 : w.heap.size < w4.heap.size := by omega
      go_wp2
      go_region
      all_goals go_wp2
      have hxx : s.extract (k + 1) (k + (n + 1)) = ⟨((s.data.toList.drop (k + 1)).take n).toArray⟩ := by rw [show k + (n + 1) = k + 1 + n by omega]; exact hx1
      refine bodyPost_ret (v := .tuple #[.agg #[.int .i64 3, .string ⟨((s.data.toList.drop (k + 1)).take n).toArray⟩, .int .i64 k], .bool true]) (by rw [← hxx]; simp [hsz4, hsz5, c0, x0, x1, x2, x3, x4, x5, results, Tryd.results27, go_sem]) rfl ?_
      exact tokEnd_ok HR.out HK.out.symm (HX.out n).symm (grown_trans (grown_set3 (grown_set_new G4.out (by omega) _ _) (Nat.le_refl _) _ _ _) (grown_below _ (bdrew _))) ((S4.out.setOther (by omega) _).set3 (by omega) _ _ _)
    | err e0 a0 =>
      have HR := kept (show U = .err e0 (1 + a0) from Hx.out)
      clear Hx
      go_enter Tryd.func27, Tryd.ntmps27
      go_wp2
      go_quiet (fail)
      go_wp2_with fail
      (with_reducible refine (Hsrc.out _ (S2.out nq) (TB2.out nq)).mono ?_); rintro e w4 ⟨rfl, g4, k', o', s4⟩
      have S4 := kept s4; clear s4
      have T4 := kept (Tri.grown (U1.out nq) g4 (by omega))
      have T3 := kept (Tri.grown (U0.out nq) g4 (by omega))
      have G4 := kept (grown_trans (G2.out nq) g4)
      have hsz4 : w.heap.size + 1 < w4.heap.size := by have h1 := g4.size; rw [hszq.out] at h1; omega
      clear g4 c0 c1 c2 c3 c4 c5 d0 d1 d2 d3 d4 d5 x0 x1 x2 x3 x4 x5 y0 y1 y2 y3 y4 y5 f1 e1 cc cd
      obtain ⟨c0, c1, c2, c3, c4, c5⟩ := S4.out.facts
      obtain ⟨x0, x1, x2, y0, y1, y2⟩ := T3.out.facts
      obtain ⟨x3, x4, x5, y3, y4, y5⟩ := T4.out.facts
      have hsz5 : w.heap.size < w4.heap.size := by omega
      go_wp2
      refine bodyPost_ret (v := .tuple #[.agg #[.int .i64 3, .string ⟨#[]⟩, .int .i64 k], .bool false]) (by simp [hsz4, hsz5, c0, x0, x1, x2, x3, x4, x5, results, Tryd.results27, go_sem]) rfl ?_
      exact tokEnd_err (t := []) HR.out (grown_set3 G4.out (Nat.le_refl _) _ _ _) (S4.out.set3 (by omega) _ _ _)
    | trunc =>
      have HR := kept (show U = .trunc from Hx.out)
      clear Hx
      go_enter Tryd.func27, Tryd.ntmps27
      go_wp2
      go_quiet (fail)
      go_wp2_with fail
      (with_reducible refine (Hsrc.out _ (S2.out nq) (TB2.out nq)).mono ?_); rintro e w4 ⟨rfl, g4, k', o', s4⟩
      have S4 := kept (show Sc w4 b s k' o' 40 q from s4); clear s4
      have T4 := kept (Tri.grown (U1.out nq) g4 (by omega))
      have T3 := kept (Tri.grown (U0.out nq) g4 (by omega))
      have G4 := kept (grown_trans (G2.out nq) g4)
      have hsz4 : w.heap.size + 1 < w4.heap.size := by have h1 := g4.size; rw [hszq.out] at h1; omega
      clear g4 c0 c1 c2 c3 c4 c5 d0 d1 d2 d3 d4 d5 x0 x1 x2 x3 x4 x5 y0 y1 y2 y3 y4 y5 f1 e1 cc cd
      obtain ⟨c0, c1, c2, c3, c4, c5⟩ := S4.out.facts
      obtain ⟨x0, x1, x2, y0, y1, y2⟩ := T3.out.facts
      obtain ⟨x3, x4, x5, y3, y4, y5⟩ := T4.out.facts
      have hsz5 : w.heap.size < w4.heap.size := by omega
      go_wp2
      refine bodyPost_ret (v := .tuple #[.agg #[.int .i64 3, .string ⟨#[]⟩, .int .i64 k], .bool false]) (by simp [hsz4, hsz5, c0, x0, x1, x2, x3, x4, x5, results, Tryd.results27, go_sem]) rfl ?_
      exact tokEnd_trunc (t := []) HR.out (grown_set3 G4.out (Nat.le_refl _) _ _ _) (S4.out.set3 (by omega) _ _ _)
  have g5 : ((c : Int) == 5) = false := by simp; omega
  have h34 : s[k] ≠ 34 := fun h => h5 (l5.2 h)
  have hn0 : Tok.signN (s.data.toList.drop k) ≠ 0 := by
    have := hbg
    rw [Tok.begins_at s k hk, hl0, hd0] at this
    simpa [h34, h10] using this
  have hx := hU.trans (Tok.one_sign src s k hk h10 hl0 hd0 h34)
  rw [if_neg hn0] at hx
  have HK := kept (show Tok.kindL (s.data.toList.drop k) = 4 by rw [Tok.kindL_at s k hk]; unfold Tok.kindOf; rw [if_neg h10, hl0, hd0, if_neg (by simp), if_neg (by simp), if_neg h34])
  have HX := kept (fun n => Tok.textL_no s k hk n h34)
  have Hsg := kept (fun w => signAt_any (s.extract k s.size) w)
  rw [Lib.extract_to_end] at Hsg
  have hsl := (Tok.sign_le s k hk).2
  have hlen : ((s.data.toList.drop k).take (Tok.signN (s.data.toList.drop k))).length = Tok.signN (s.data.toList.drop k) := by
    rw [List.length_take, List.length_drop, show s.data.toList.length = s.size by simp]; omega
  generalize Tok.signN (s.data.toList.drop k) = n at *
  obtain ⟨tx, htx⟩ : ∃ tx, (s.data.toList.drop k).take n = tx := ⟨_, rfl⟩
  have HX2 := kept ((HX.out n).trans htx)
  rw [htx] at Hsg hlen
  have Hlen := kept hlen
  have HR := kept hx
  have hk3 : (k : Int) ≤ s.size := by omega
  have hwn : IntKind.i64.wrap ((k : Int) + n) = (k : Int) + n := IntWalk.i64_in _ (by omega)
  have Hwn := kept hwn
  clear hU l2 l3 l5 l6 hbg hsrc hfit h10 h hT h34 h6 h2 h3 h5 hl0 hd0 hx htx HX hlen hn0 hwn
  go_enter Tryd.func27, Tryd.ntmps27
  go_wp2
  go_quiet (fail)
  go_wp2
  go_region_with (go_at_call 48; refine (Hsg.out _).mono ?_; rintro e w4 ⟨rfl, rfl⟩)
  all_goals
    have hlen2 := Hlen.out
    have hwn := Hwn.out
    go_wp2
    go_region
    all_goals
      go_wp2
      refine bodyPost_ret (v := .tuple #[.agg #[.int .i64 4, .string ⟨tx.toArray⟩, .int .i64 k], .bool true]) (by simp [results, Tryd.results27, go_sem]) rfl ?_
      have hkn : ((k + n : Nat) : Int) = (k : Int) + n := by omega
      have hs1 := ((HK2.out.draw (nq + 1)).setOther (g := w.heap.size + 1) (i := 0) (by omega) (.int .i64 4)).setOther (g := w.heap.size + 1) (i := 1) (by omega) (.string ⟨tx.toArray⟩)
      have hs2 := (hs1.setAt ((k : Int) + n)).set3 (g := w.heap.size) (by omega) (.int .i64 4) (.string ⟨tx.toArray⟩) (.int .i64 k)
      have hg1 := grown_set_new (grown_set_new (grown_trans (grown_below (some b) HB2.out) (grown_drewN _ (nq + 1) _)) (by omega : w.heap.size ≤ w.heap.size + 1) 0 (.int .i64 4)) (by omega : w.heap.size ≤ w.heap.size + 1) 1 (.string ⟨tx.toArray⟩)
      have hg2 := grown_set3 (grown_trans hg1 (grown_set _ b 1 (.int .i64 ((k : Int) + n)))) (Nat.le_refl w.heap.size) (.int .i64 4) (.string ⟨tx.toArray⟩) (.int .i64 k)
      refine tokEnd_ok HR.out HK.out.symm HX2.out.symm ?_ ?_
      · exact grown_trans hg2 (grown_below _ (bdrew _))
      · rw [hkn]; exact hs2.drew'
end Go.Proofs.YtbpaeglmanjbfaaDoor
