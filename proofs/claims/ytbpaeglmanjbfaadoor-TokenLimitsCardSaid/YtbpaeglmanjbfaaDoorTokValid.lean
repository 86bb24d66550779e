/- The walk of token's valid. -/
import Derived.Test.YtbpaeglmanjbfaaDoorTokFmt3
namespace Go.Proofs.YtbpaeglmanjbfaaDoor
open Go.RowKit
set_option linter.unusedSimpArgs false
set_option linter.unusedVariables false
namespace Tok
def preB (t : TI) : Bool := decide (sourceL t ≠ [] ∧ 1 ≤ t.1 ∧ t.1 ≤ 5)
/-- Is it a token other than the end? -/
def validB (t : TI) : Bool :=
  preB t && (beginsB (sourceL t) && match one 32 (sourceL t) with
    | .ok n => n == (sourceL t).length && kindL (sourceL t) == t.1
    | _ => false)
end Tok
set_option maxRecDepth 100000 in
set_option maxHeartbeats 8000000 in
theorem valid_any (k1 a : Int) (t : List UInt8) (w : World) (ht : t.length ≤ 10000) (hT : Lib.Utf8Tabs 1 2 w) :
    Calls Tryd.prog 32 #[.agg #[.int .i64 k1, .string ⟨t.toArray⟩, .int .i64 a]] w fun e w' => e = .returned (.bool (Tok.validB (k1, t, a))) ∧ Below w.heap.size w w' := by
  obtain ⟨R, hR⟩ : ∃ R, Tok.validB (k1, t, a) = R := ⟨_, rfl⟩
  rw [hR]
  have HT := kept hT
  have H2 := kept (tabs_lt hT)
  clear hT
  by_cases hk3 : k1 = 3
  · subst hk3
    have hs1 : ∀ w : World, (Op.stringOp .add ⟨#[34]⟩ ⟨t.toArray⟩).run Tryd.prog w = .ok (.string ⟨(34 :: t).toArray⟩) w := fun w => run_cat w (l := [34]) (m := t) rfl rfl (by simp; omega)
    have hs2 : ∀ w : World, (Op.stringOp .add ⟨(34 :: t).toArray⟩ ⟨#[34]⟩).run Tryd.prog w = .ok (.string ⟨(34 :: (t ++ [34])).toArray⟩) w := fun w => run_cat w (l := 34 :: t) (m := [34]) rfl rfl (by simp; omega)
    obtain ⟨S, hS⟩ : ∃ S, 34 :: (t ++ [34]) = S := ⟨_, rfl⟩
    have hsl : Tok.sourceL (3, t, a) = S := by rw [← hS]; rfl
    have hlS : S.length = t.length + 2 := by rw [← hS]; simp
    have hS0 : S ≠ [] := by intro h; rw [h] at hlS; simp at hlS
    have hS1 : S.isEmpty = false := by cases S <;> simp_all
    have hpre : Tok.preB (3, t, a) = true := by unfold Tok.preB; rw [hsl]; simp [hS0]
    have hSe : (S == []) = false := by simpa using hS0
    rw [hS] at hs2
    clear hS
    have Hbg := kept (fun w b (h : Sc w b ⟨(S).toArray⟩ ((0 : Nat) : Int) (-1) 0 0) => begins_any w b ⟨(S).toArray⟩ 0 (-1) 0 0 h (by rw [size_mk]; omega))
    have Htk := kept (fun w b (hb : 2 < b) (h : Sc w b ⟨(S).toArray⟩ ((0 : Nat) : Int) (-1) 0 0) hT hbg => token_any ⟨(S).toArray⟩ (by rw [size_mk]; omega) b hb 0 0 0 w (by rw [size_mk]; omega) h hT hbg)
    have Hfit := kept (fun n h => Tok.one_fit 32 ⟨(S).toArray⟩ 0 n (by rw [size_mk]; omega) h)
    have hone : Tok.oneW (Tok.src 32) = Tok.one 32 := rfl
    have hdr : List.drop 0 (⟨(S).toArray⟩ : ByteArray).data.toList = S := rfl
    rw [hone] at Hfit
    simp only [hdr] at Hbg Htk Hfit
    rw [show (⟨(S).toArray⟩ : ByteArray).size = (S).length from size_mk _] at Hfit
    clear hone hdr
    rcases bool_or (Tok.beginsB (S)) with hbb | hbb
    · rw [hbb] at Hbg
      have Htk2 := kept (fun w b hb h hT => Htk.out w b hb h hT hbb)
      have hR2 : (match Tok.one 32 (S) with | .ok n => n == (S).length && Tok.kindL (S) == 3 | _ => false) = R := by
        rw [← hR]; unfold Tok.validB; rw [hsl, hbb, hpre]; rfl
      clear hbb Htk hR
      obtain ⟨r, hr⟩ : ∃ r, Tok.one 32 (S) = r := ⟨_, rfl⟩
      rw [hr] at hR2
      simp only [hr] at Htk2 Hfit
      clear hr
      cases r with
      | ok n =>
        have hR3 : (n == (S).length && Tok.kindL (S) == 3) = R := hR2
        have hn := (Hfit.out n rfl).2
        have HR3 := kept hR3
        clear hR2 hR3
        go_enter Tryd.func32, Tryd.ntmps32
        go_wp2_with fail
        (with_reducible refine (newScanner_any _ _).mono ?_); rintro e w1 ⟨b, rfl, hS, hb, hbel⟩
        have HS := kept (show Sc w1 b ⟨(S).toArray⟩ ((0 : Nat) : Int) (-1) 0 0 from hS)
        have hb2 : 2 < b := by have := H2.out; simp at hb; omega
        have Hb := kept hb
        have HL1 := kept (bthen (ball w _) hbel)
        have HT1 := kept (Utf8Tabs_below (Utf8Tabs_below HT.out (ball w _)) hbel)
        have hbx : w.heap.size ≠ b := by simp at hb; omega
        have X1 := kept ((Tri.fresh w 36 (.int .i64 3) (.string ⟨t.toArray⟩) (.int .i64 a)).below hbel)
        clear hS hb hbel
        go_wp2_with fail
        (with_reducible refine (Hbg.out _ _ HS.out).mono ?_); rintro e w2 ⟨rfl, n2, rfl⟩
        go_wp2_with fail
        (with_reducible refine (Htk2.out (World.drewN w1 n2) _ hb2 (HS.out.draw n2) (Utf8Tabs_below HT1.out (below_drewN (Below.refl _ _) n2))).mono ?_); rintro e w4 ⟨⟨ta, tt, tc, rfl, hv⟩, g4, s4⟩
        obtain ⟨e1, _, _⟩ := hv n rfl
        have E1 := kept (show ta = Tok.kindL (S) from e1)
        have S4 := kept (show Sc w4 b ⟨(S).toArray⟩ ((0 + n : Nat) : Int) (-1) 0 0 from s4)
        have G4 := kept (grown_trans (grown_drewN w1 n2 (some b)) g4)
        have X4 := kept (X1.out.grown G4.out hbx)
        have HL4 := kept (below_of_grown HL1.out G4.out (by have := HL1.out.size; omega) (by have := Hb.out; simp at this; omega))
        clear e1 hv s4 g4
        have Hm4 := kept (fun W (hW : Sc W b ⟨(S).toArray⟩ ((0 + n : Nat) : Int) (-1) 0 0) => more_any W b ⟨(S).toArray⟩ (0 + n) (-1) 0 0 hW)
        have hsz : decide (0 + n < (⟨(S).toArray⟩ : ByteArray).size) = !(n == (S).length) := by rw [size_mk, Bool.eq_iff_iff]; simp; omega
        rw [hsz] at Hm4
        clear hsz
        rcases bool_or (n == (S).length) with hnl | hnl
        · rw [hnl] at Hm4
          have HR := kept (show (ta == 3) = R by rw [E1.out, ← HR3.out, hnl]; rfl)
          clear hnl
          go_wp2_with fail
          (with_reducible refine (Hm4.out _ (S4.out.below (ball _ _))).mono ?_); rintro e w6 ⟨rfl, n6, rfl⟩
          obtain ⟨x0, x1, x2, _, _, _⟩ := X4.out.facts
          obtain ⟨y0, y1, y2, _, _, _⟩ := (X4.out.below (ball w4 (.cells #[.int .i64 ta, .string ⟨tt.toArray⟩, .int .i64 tc] 36))).facts
          have hszw : w.heap.size < w4.heap.size := (Array.getElem?_eq_some_iff.1 X4.out).1
          go_wp2
          go_ret
          exact ⟨ret_bool HR.out, below_drewN (HL4.out.alloc (by omega) _) n6⟩
        · rw [hnl] at Hm4
          have HR := kept (show false = R by rw [← HR3.out, hnl]; rfl)
          clear hnl
          go_wp2_with fail
          (with_reducible refine (Hm4.out _ (S4.out.below (ball _ _))).mono ?_); rintro e w6 ⟨rfl, n6, rfl⟩
          have hszw : w.heap.size < w4.heap.size := (Array.getElem?_eq_some_iff.1 X4.out).1
          go_wp2
          go_ret
          exact ⟨ret_bool HR.out, below_drewN (HL4.out.alloc (by omega) _) n6⟩
      | err e0 a0 =>
        have HR := kept (show false = R from hR2)
        clear hR2
        go_enter Tryd.func32, Tryd.ntmps32
        go_wp2_with fail
        (with_reducible refine (newScanner_any _ _).mono ?_); rintro e w1 ⟨b, rfl, hS, hb, hbel⟩
        have HS := kept (show Sc w1 b ⟨(S).toArray⟩ ((0 : Nat) : Int) (-1) 0 0 from hS)
        have hb2 : 2 < b := by have := H2.out; simp at hb; omega
        have Hb := kept hb
        have HL1 := kept (bthen (ball w _) hbel)
        have HT1 := kept (Utf8Tabs_below (Utf8Tabs_below HT.out (ball w _)) hbel)
        have hbx : w.heap.size ≠ b := by simp at hb; omega
        have X1 := kept ((Tri.fresh w 36 (.int .i64 3) (.string ⟨t.toArray⟩) (.int .i64 a)).below hbel)
        clear hS hb hbel
        go_wp2_with fail
        (with_reducible refine (Hbg.out _ _ HS.out).mono ?_); rintro e w2 ⟨rfl, n2, rfl⟩
        go_wp2_with fail
        (with_reducible refine (Htk2.out (World.drewN w1 n2) _ hb2 (HS.out.draw n2) (Utf8Tabs_below HT1.out (below_drewN (Below.refl _ _) n2))).mono ?_); rintro e w4 ⟨⟨ta, tt, tc, rfl, hv⟩, g4, s4⟩
        have HL4 := kept (below_of_grown HL1.out (grown_trans (grown_drewN w1 n2 (some b)) g4) (by have := HL1.out.size; omega) (by have := Hb.out; simp at this; omega))
        have hszw : w.heap.size ≤ w4.heap.size := HL4.out.size
        clear hv s4 g4
        go_wp2
        go_ret
        exact ⟨ret_bool HR.out, HL4.out.alloc (by omega) _⟩
      | trunc =>
        have HR := kept (show false = R from hR2)
        clear hR2
        go_enter Tryd.func32, Tryd.ntmps32
        go_wp2_with fail
        (with_reducible refine (newScanner_any _ _).mono ?_); rintro e w1 ⟨b, rfl, hS, hb, hbel⟩
        have HS := kept (show Sc w1 b ⟨(S).toArray⟩ ((0 : Nat) : Int) (-1) 0 0 from hS)
        have hb2 : 2 < b := by have := H2.out; simp at hb; omega
        have Hb := kept hb
        have HL1 := kept (bthen (ball w _) hbel)
        have HT1 := kept (Utf8Tabs_below (Utf8Tabs_below HT.out (ball w _)) hbel)
        have hbx : w.heap.size ≠ b := by simp at hb; omega
        have X1 := kept ((Tri.fresh w 36 (.int .i64 3) (.string ⟨t.toArray⟩) (.int .i64 a)).below hbel)
        clear hS hb hbel
        go_wp2_with fail
        (with_reducible refine (Hbg.out _ _ HS.out).mono ?_); rintro e w2 ⟨rfl, n2, rfl⟩
        go_wp2_with fail
        (with_reducible refine (Htk2.out (World.drewN w1 n2) _ hb2 (HS.out.draw n2) (Utf8Tabs_below HT1.out (below_drewN (Below.refl _ _) n2))).mono ?_); rintro e w4 ⟨⟨ta, tt, tc, rfl, hv⟩, g4, s4⟩
        have HL4 := kept (below_of_grown HL1.out (grown_trans (grown_drewN w1 n2 (some b)) g4) (by have := HL1.out.size; omega) (by have := Hb.out; simp at this; omega))
        have hszw : w.heap.size ≤ w4.heap.size := HL4.out.size
        clear hv s4 g4
        go_wp2
        go_ret
        exact ⟨ret_bool HR.out, HL4.out.alloc (by omega) _⟩
    · rw [hbb] at Hbg
      have HR := kept (show false = R by rw [← hR]; unfold Tok.validB; rw [hsl, hbb]; simp)
      clear hbb hR
      go_enter Tryd.func32, Tryd.ntmps32
      go_wp2_with fail
      (with_reducible refine (newScanner_any _ _).mono ?_); rintro e w1 ⟨b, rfl, hS, hb, hbel⟩
      have HS := kept (show Sc w1 b ⟨(S).toArray⟩ ((0 : Nat) : Int) (-1) 0 0 from hS)
      have hb2 : 2 < b := by have := H2.out; simp at hb; omega
      have Hb := kept hb
      have HL1 := kept (bthen (ball w _) hbel)
      have HT1 := kept (Utf8Tabs_below (Utf8Tabs_below HT.out (ball w _)) hbel)
      have hbx : w.heap.size ≠ b := by simp at hb; omega
      have X1 := kept ((Tri.fresh w 36 (.int .i64 3) (.string ⟨t.toArray⟩) (.int .i64 a)).below hbel)
      clear hS hb hbel
      go_wp2_with fail
      (with_reducible refine (Hbg.out _ _ HS.out).mono ?_); rintro e w2 ⟨rfl, n2, rfl⟩
      go_wp2
      go_ret
      exact ⟨ret_bool HR.out, below_drewN HL1.out n2⟩
  · have hk3' : (k1 == 3) = false := by simpa using hk3
    have hsl : Tok.sourceL (k1, t, a) = t := by unfold Tok.sourceL; rw [if_neg hk3]
    by_cases hpre : t ≠ [] ∧ 1 ≤ k1 ∧ k1 ≤ 5
    · obtain ⟨hS0, hk1, hk5⟩ := hpre
      have hS1 : t.isEmpty = false := by cases t <;> simp_all
      have hSe : (t == []) = false := by simpa using hS0
      have hpre : Tok.preB (k1, t, a) = true := by unfold Tok.preB; rw [hsl]; simp [hS0, hk1, hk5]
      have hl0 : 0 < t.length := by cases t <;> simp_all
      have hk1' : ¬ k1 < 1 := by omega
      have hk5' : ¬ 5 < k1 := by omega
      have hd1 : decide (k1 < 1) = false := by simpa using hk1'
      have hd5 : decide (5 < k1) = false := by simpa using hk5'
      have Hbg := kept (fun w b (h : Sc w b ⟨(t).toArray⟩ ((0 : Nat) : Int) (-1) 0 0) => begins_any w b ⟨(t).toArray⟩ 0 (-1) 0 0 h (by rw [size_mk]; omega))
      have Htk := kept (fun w b (hb : 2 < b) (h : Sc w b ⟨(t).toArray⟩ ((0 : Nat) : Int) (-1) 0 0) hT hbg => token_any ⟨(t).toArray⟩ (by rw [size_mk]; omega) b hb 0 0 0 w (by rw [size_mk]; omega) h hT hbg)
      have Hfit := kept (fun n h => Tok.one_fit 32 ⟨(t).toArray⟩ 0 n (by rw [size_mk]; omega) h)
      have hone : Tok.oneW (Tok.src 32) = Tok.one 32 := rfl
      have hdr : List.drop 0 (⟨(t).toArray⟩ : ByteArray).data.toList = t := rfl
      rw [hone] at Hfit
      simp only [hdr] at Hbg Htk Hfit
      rw [show (⟨(t).toArray⟩ : ByteArray).size = (t).length from size_mk _] at Hfit
      clear hone hdr
      rcases bool_or (Tok.beginsB (t)) with hbb | hbb
      · rw [hbb] at Hbg
        have Htk2 := kept (fun w b hb h hT => Htk.out w b hb h hT hbb)
        have hR2 : (match Tok.one 32 (t) with | .ok n => n == (t).length && Tok.kindL (t) == k1 | _ => false) = R := by
          rw [← hR]; unfold Tok.validB; rw [hsl, hbb, hpre]; rfl
        clear hbb Htk hR
        obtain ⟨r, hr⟩ : ∃ r, Tok.one 32 (t) = r := ⟨_, rfl⟩
        rw [hr] at hR2
        simp only [hr] at Htk2 Hfit
        clear hr
        cases r with
        | ok n =>
          have hR3 : (n == (t).length && Tok.kindL (t) == k1) = R := hR2
          have hn := (Hfit.out n rfl).2
          have HR3 := kept hR3
          clear hR2 hR3
          go_enter Tryd.func32, Tryd.ntmps32
          go_wp2_with fail
          (with_reducible refine (newScanner_any _ _).mono ?_); rintro e w1 ⟨b, rfl, hS, hb, hbel⟩
          have HS := kept (show Sc w1 b ⟨(t).toArray⟩ ((0 : Nat) : Int) (-1) 0 0 from hS)
          have hb2 : 2 < b := by have := H2.out; simp at hb; omega
          have Hb := kept hb
          have HL1 := kept (bthen (ball w _) hbel)
          have HT1 := kept (Utf8Tabs_below (Utf8Tabs_below HT.out (ball w _)) hbel)
          have hbx : w.heap.size ≠ b := by simp at hb; omega
          have X1 := kept ((Tri.fresh w 36 (.int .i64 k1) (.string ⟨t.toArray⟩) (.int .i64 a)).below hbel)
          clear hS hb hbel
          go_wp2_with fail
          (with_reducible refine (Hbg.out _ _ HS.out).mono ?_); rintro e w2 ⟨rfl, n2, rfl⟩
          go_wp2_with fail
          (with_reducible refine (Htk2.out (World.drewN w1 n2) _ hb2 (HS.out.draw n2) (Utf8Tabs_below HT1.out (below_drewN (Below.refl _ _) n2))).mono ?_); rintro e w4 ⟨⟨ta, tt, tc, rfl, hv⟩, g4, s4⟩
          obtain ⟨e1, _, _⟩ := hv n rfl
          have E1 := kept (show ta = Tok.kindL (t) from e1)
          have S4 := kept (show Sc w4 b ⟨(t).toArray⟩ ((0 + n : Nat) : Int) (-1) 0 0 from s4)
          have G4 := kept (grown_trans (grown_drewN w1 n2 (some b)) g4)
          have X4 := kept (X1.out.grown G4.out hbx)
          have HL4 := kept (below_of_grown HL1.out G4.out (by have := HL1.out.size; omega) (by have := Hb.out; simp at this; omega))
          clear e1 hv s4 g4
          have Hm4 := kept (fun W (hW : Sc W b ⟨(t).toArray⟩ ((0 + n : Nat) : Int) (-1) 0 0) => more_any W b ⟨(t).toArray⟩ (0 + n) (-1) 0 0 hW)
          have hsz : decide (0 + n < (⟨(t).toArray⟩ : ByteArray).size) = !(n == (t).length) := by rw [size_mk, Bool.eq_iff_iff]; simp; omega
          rw [hsz] at Hm4
          clear hsz
          rcases bool_or (n == (t).length) with hnl | hnl
          · rw [hnl] at Hm4
            have HR := kept (show (ta == k1) = R by rw [E1.out, ← HR3.out, hnl]; rfl)
            clear hnl
            go_wp2_with fail
            (with_reducible refine (Hm4.out _ (S4.out.below (ball _ _))).mono ?_); rintro e w6 ⟨rfl, n6, rfl⟩
            obtain ⟨x0, x1, x2, _, _, _⟩ := X4.out.facts
            obtain ⟨y0, y1, y2, _, _, _⟩ := (X4.out.below (ball w4 (.cells #[.int .i64 ta, .string ⟨tt.toArray⟩, .int .i64 tc] 36))).facts
            have hszw : w.heap.size < w4.heap.size := (Array.getElem?_eq_some_iff.1 X4.out).1
            go_wp2
            go_ret
            exact ⟨ret_bool HR.out, below_drewN (HL4.out.alloc (by omega) _) n6⟩
          · rw [hnl] at Hm4
            have HR := kept (show false = R by rw [← HR3.out, hnl]; rfl)
            clear hnl
            go_wp2_with fail
            (with_reducible refine (Hm4.out _ (S4.out.below (ball _ _))).mono ?_); rintro e w6 ⟨rfl, n6, rfl⟩
            have hszw : w.heap.size < w4.heap.size := (Array.getElem?_eq_some_iff.1 X4.out).1
            go_wp2
            go_ret
            exact ⟨ret_bool HR.out, below_drewN (HL4.out.alloc (by omega) _) n6⟩
        | err e0 a0 =>
          have HR := kept (show false = R from hR2)
          clear hR2
          go_enter Tryd.func32, Tryd.ntmps32
          go_wp2_with fail
          (with_reducible refine (newScanner_any _ _).mono ?_); rintro e w1 ⟨b, rfl, hS, hb, hbel⟩
          have HS := kept (show Sc w1 b ⟨(t).toArray⟩ ((0 : Nat) : Int) (-1) 0 0 from hS)
          have hb2 : 2 < b := by have := H2.out; simp at hb; omega
          have Hb := kept hb
          have HL1 := kept (bthen (ball w _) hbel)
          have HT1 := kept (Utf8Tabs_below (Utf8Tabs_below HT.out (ball w _)) hbel)
          have hbx : w.heap.size ≠ b := by simp at hb; omega
          have X1 := kept ((Tri.fresh w 36 (.int .i64 k1) (.string ⟨t.toArray⟩) (.int .i64 a)).below hbel)
          clear hS hb hbel
          go_wp2_with fail
          (with_reducible refine (Hbg.out _ _ HS.out).mono ?_); rintro e w2 ⟨rfl, n2, rfl⟩
          go_wp2_with fail
          (with_reducible refine (Htk2.out (World.drewN w1 n2) _ hb2 (HS.out.draw n2) (Utf8Tabs_below HT1.out (below_drewN (Below.refl _ _) n2))).mono ?_); rintro e w4 ⟨⟨ta, tt, tc, rfl, hv⟩, g4, s4⟩
          have HL4 := kept (below_of_grown HL1.out (grown_trans (grown_drewN w1 n2 (some b)) g4) (by have := HL1.out.size; omega) (by have := Hb.out; simp at this; omega))
          have hszw : w.heap.size ≤ w4.heap.size := HL4.out.size
          clear hv s4 g4
          go_wp2
          go_ret
          exact ⟨ret_bool HR.out, HL4.out.alloc (by omega) _⟩
        | trunc =>
          have HR := kept (show false = R from hR2)
          clear hR2
          go_enter Tryd.func32, Tryd.ntmps32
          go_wp2_with fail
          (with_reducible refine (newScanner_any _ _).mono ?_); rintro e w1 ⟨b, rfl, hS, hb, hbel⟩
          have HS := kept (show Sc w1 b ⟨(t).toArray⟩ ((0 : Nat) : Int) (-1) 0 0 from hS)
          have hb2 : 2 < b := by have := H2.out; simp at hb; omega
          have Hb := kept hb
          have HL1 := kept (bthen (ball w _) hbel)
          have HT1 := kept (Utf8Tabs_below (Utf8Tabs_below HT.out (ball w _)) hbel)
          have hbx : w.heap.size ≠ b := by simp at hb; omega
          have X1 := kept ((Tri.fresh w 36 (.int .i64 k1) (.string ⟨t.toArray⟩) (.int .i64 a)).below hbel)
          clear hS hb hbel
          go_wp2_with fail
          (with_reducible refine (Hbg.out _ _ HS.out).mono ?_); rintro e w2 ⟨rfl, n2, rfl⟩
          go_wp2_with fail
          (with_reducible refine (Htk2.out (World.drewN w1 n2) _ hb2 (HS.out.draw n2) (Utf8Tabs_below HT1.out (below_drewN (Below.refl _ _) n2))).mono ?_); rintro e w4 ⟨⟨ta, tt, tc, rfl, hv⟩, g4, s4⟩
          have HL4 := kept (below_of_grown HL1.out (grown_trans (grown_drewN w1 n2 (some b)) g4) (by have := HL1.out.size; omega) (by have := Hb.out; simp at this; omega))
          have hszw : w.heap.size ≤ w4.heap.size := HL4.out.size
          clear hv s4 g4
          go_wp2
          go_ret
          exact ⟨ret_bool HR.out, HL4.out.alloc (by omega) _⟩
      · rw [hbb] at Hbg
        have HR := kept (show false = R by rw [← hR]; unfold Tok.validB; rw [hsl, hbb]; simp)
        clear hbb hR
        go_enter Tryd.func32, Tryd.ntmps32
        go_wp2_with fail
        (with_reducible refine (newScanner_any _ _).mono ?_); rintro e w1 ⟨b, rfl, hS, hb, hbel⟩
        have HS := kept (show Sc w1 b ⟨(t).toArray⟩ ((0 : Nat) : Int) (-1) 0 0 from hS)
        have hb2 : 2 < b := by have := H2.out; simp at hb; omega
        have Hb := kept hb
        have HL1 := kept (bthen (ball w _) hbel)
        have HT1 := kept (Utf8Tabs_below (Utf8Tabs_below HT.out (ball w _)) hbel)
        have hbx : w.heap.size ≠ b := by simp at hb; omega
        have X1 := kept ((Tri.fresh w 36 (.int .i64 k1) (.string ⟨t.toArray⟩) (.int .i64 a)).below hbel)
        clear hS hb hbel
        go_wp2_with fail
        (with_reducible refine (Hbg.out _ _ HS.out).mono ?_); rintro e w2 ⟨rfl, n2, rfl⟩
        go_wp2
        go_ret
        exact ⟨ret_bool HR.out, below_drewN HL1.out n2⟩
    · have HR := kept (show false = R by rw [← hR]; unfold Tok.validB Tok.preB; rw [hsl, decide_eq_false hpre]; rfl)
      clear hR
      by_cases h0 : t = []
      · subst h0
        clear hpre
        go_enter Tryd.func32, Tryd.ntmps32
        go_wp2
        go_ret
        exact ⟨ret_bool HR.out, ball w _⟩
      · have hS1 : t.isEmpty = false := by cases t <;> simp_all
        have hSe : (t == []) = false := by simpa using h0
        by_cases h1 : k1 < 1
        · have hd1 : decide (k1 < 1) = true := by simpa using h1
          clear hpre h0
          go_enter Tryd.func32, Tryd.ntmps32
          go_wp2
          go_ret
          exact ⟨ret_bool HR.out, ball w _⟩
        · have hd1 : decide (k1 < 1) = false := by simpa using h1
          have h5 : 5 < k1 := by
            rcases Int.lt_or_le 5 k1 with h | h
            · exact h
            · exact absurd ⟨h0, by omega, h⟩ hpre
          have hd5 : decide (5 < k1) = true := by simpa using h5
          clear hpre h0
          go_enter Tryd.func32, Tryd.ntmps32
          go_wp2
          go_ret
          exact ⟨ret_bool HR.out, ball w _⟩
end Go.Proofs.YtbpaeglmanjbfaaDoor
