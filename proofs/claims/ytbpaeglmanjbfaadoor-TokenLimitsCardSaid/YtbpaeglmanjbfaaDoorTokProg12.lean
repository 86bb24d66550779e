/- The walk of token.Scan. -/
import Derived.Test.YtbpaeglmanjbfaaDoorTokProg11
import Derived.Test.YtbpaeglmanjbfaaDoorTokRef8
namespace Go.Proofs.YtbpaeglmanjbfaaDoor
open Go.RowKit
set_option linter.unusedSimpArgs false
set_option linter.unusedVariables false
theorem below_of_grown {w a c : World} {b B : Nat} (h : Below B w a) (hg : a.grownBy c (some b)) (hB : B ≤ a.heap.size) (hb : B ≤ b) : Below B w c := h.grown hg hB (fun k hk => by injection hk with hk; omega)
theorem OwnsT.grown {w w' : World} {b : Nat} {v : Value} {l : List Tok.T} (h : OwnsT w (b + 1) v l) (hg : w.grownBy w' (some b)) : OwnsT w' (b + 1) v l := by
  refine h.kept hg (.inr fun he => ?_)
  have := (World.ownsRow.lt h b he).1
  omega
theorem DiagAt.grown {w w' : World} {g b : Nat} (h : DiagAt w g) (hg : w.grownBy w' (some b)) (hne : g ≠ b) : DiagAt w' g :=
  (hg.block g (Array.getElem?_eq_some_iff.1 h).1 (fun he => hne (by injection he))).trans h
theorem tabs_lt {w : World} (h : Lib.Utf8Tabs 1 2 w) : 2 < w.heap.size := by
  have hc := (h.2 0 (by omega)).1
  rcases Nat.lt_or_ge 2 w.heap.size with h' | h'
  · exact h'
  · simp [World.cell?, Array.getElem?_eq_none h'] at hc
def ScanRel (s : ByteArray) (b : Nat) (U : Tok.SR) (w : World) (ov : Value) (wr : World) : Prop :=
  ∃ (j f : Nat) (acc : List Tok.T) (oa : Option Addr) (cap : Nat), j ≤ s.size ∧ ov = .slice oa acc.length cap ∧ acc.length ≤ j ∧ acc.length ≤ 16384 ∧ s.size - j < f ∧ U = Tok.scanF f (s.data.toList.drop j) j acc ∧ OwnsT wr (b + 1) (.slice oa acc.length cap) acc ∧ DiagAt wr w.heap.size ∧ Sc wr b s j (-1) 0 0 ∧ Below w.heap.size w wr ∧ b < wr.heap.size
set_option maxRecDepth 100000 in
set_option maxHeartbeats 8000000 in
theorem scan_any (s : ByteArray) (hs : s.size ≤ 1000000) (w : World) (hT : Lib.Utf8Tabs 1 2 w) :
    Calls Tryd.prog 11 #[.string s] w (ScanEnd (Tok.scan s.data.toList) w) := by
  obtain ⟨U, hU⟩ : ∃ U, U = Tok.scan s.data.toList := ⟨_, rfl⟩
  rw [← hU]
  by_cases hbig : 65536 < s.size
  · have HU := kept (show U = ⟨[], 3, 0⟩ by rw [hU]; unfold Tok.scan; rw [if_pos (by simpa using hbig)])
    have hbig' : (65536 : Int) < s.size := by omega
    have hB := kept (ball w (.cells #[.int .i64 0, .int .i64 0, .string ⟨#[]⟩] 26))
    clear hU hT
    go_enter Tryd.func11, Tryd.ntmps11
    go_wp2
    exact bodyPost_ret (v := .tuple #[.slice none 0 0, diagV 3 0]) (by simp [results, Tryd.results11, go_sem, diagV]) rfl (scanEnd_err 0 HU.out rfl (ball w _))
  · have HU := kept (show U = Tok.scanF (s.size + 1) s.data.toList 0 [] by rw [hU]; unfold Tok.scan; rw [if_neg (by simpa using hbig)]; simp)
    have hbig' : ¬ (65536 : Int) < s.size := by omega
    have HT := kept hT
    have H2 := kept (tabs_lt hT)
    clear hU hT
    go_enter Tryd.func11, Tryd.ntmps11
    go_wp2_with fail
    (with_reducible refine (newScanner_any _ _).mono ?_); rintro e w1 ⟨b, rfl, hS, hb, hbel⟩
    have hszb : w.heap.size < b := by simp at hb; omega
    have HR := kept (show ScanRel s b U w (.slice none 0 0) w1 from ⟨0, s.size + 1, [], none, 0, by omega, rfl, by simp, by simp, by omega, HU.out, OwnsT.nil _ _, (DiagAt.fresh w).below hbel, hS, bthen (ball w _) hbel, hS.lt⟩)
    have Hszb := kept hszb
    clear hS hb hbel hszb
    go_wp2
    go_loopw [5] (fun ov wr => ScanRel s b U w ov wr) (fun _ wr => s.size - scAt wr b)
    case atStart => exact HR.out
    case round =>
      clear HR HU
      obtain ⟨j, f, acc, oa, cap, hj, rfl, hacc, hacc2, hf, hu, how, hdi, hS, hbel, hsz⟩ := hrel
      have Hu := kept hu; have Hd := kept hdi; have Hl := kept hbel; have Hw := kept how; have Hs := kept hS; have Hsz := kept hsz
      have Htb0 := kept (show Lib.Utf8Tabs 1 2 wr from Utf8Tabs_below HT.out hbel)
      clear hu hdi hbel how hS hsz
      obtain ⟨f, rfl⟩ : ∃ f', f = f' + 1 := ⟨f - 1, by omega⟩
      have Hsk := kept (skip_any wr b s j (-1) 0 0 Hs.out hj hs)
      rw [show Tok.skipO (-1) (s.data.toList.drop j) = Tok.skipN (s.data.toList.drop j) from rfl] at Hsk
      have hkf := Tok.skip_fit s j hj
      obtain ⟨k, hk⟩ : ∃ k, j + Tok.skipN (s.data.toList.drop j) = k := ⟨_, rfl⟩
      have Sbad := kept (Tok.scan_bad f s j k acc hk); have Slim := kept (Tok.scan_limit f s j k acc hk); have Send := kept (Tok.scan_end f s j k acc hk); have Sst := kept (Tok.scan_step f s j k acc hk)
      have hjk : j ≤ k := by omega
      rw [hk] at Hsk hkf
      clear hk
      by_cases hlt : k < s.size
      · have hdd : decide (k < s.size) = true := by simpa using hlt
        have Hbg := kept (fun w h => begins_any w b s k (-1) 0 0 h hlt)
        rcases bool_or (Tok.beginsB (s.data.toList.drop k)) with hb | hb
        · rw [hb] at Hbg
          by_cases hlim : acc.length = 16384
          · have hl16 : ((acc.length : Int) == 16384) = true := by simp; omega
            have Hx := kept (Hu.out.trans (Slim.out (fun _ => hb) hlim))
            clear hb hlim
            go_wp2_with fail
            (with_reducible refine (Hsk.out).mono ?_); rintro e w1 ⟨rfl, s1, g1⟩
            have S1 := kept s1; have G1 := kept g1; clear s1 g1
            have Hm := kept (more_any _ _ _ _ _ _ _ S1.out)
            rw [hdd] at Hm
            clear hdd
            go_wp2_with fail
            (with_reducible refine (Hm.out).mono ?_); rintro e w2 ⟨rfl, n2, rfl⟩
            go_wp2_with fail
            (with_reducible refine (Hbg.out _ (S1.out.draw n2)).mono ?_); rintro e w3 ⟨rfl, n3, hw3⟩; rw [World.drewN_drewN] at hw3
            have S3 := kept (show Sc w3 b s k (-1) 0 0 by rw [hw3]; exact S1.out.draw _)
            have G3 := kept (show wr.grownBy w3 (some b) by rw [hw3]; exact grown_trans G1.out (grown_drewN _ _ _))
            clear hw3
            have D3 := kept (Hd.out.grown G3.out (by have := Hszb.out; omega))
            have L3 := kept (below_of_grown Hl.out G3.out (by have := Hsz.out; have := Hszb.out; omega) (by have := Hszb.out; omega))
            have W3 := kept (Hw.out.grown G3.out)
            have hsz3 : b < w3.heap.size := S3.out.lt
            have hszb := Hszb.out
            have hszw : w.heap.size < w3.heap.size := by omega
            obtain ⟨c0, c1, c2, f0, f1, f2⟩ := D3.out.facts
            obtain ⟨d0, d1, d2, d3, d4, d5⟩ := S3.out.facts
            go_wp2
            go_region
            all_goals go_wp2
            all_goals exact bodyPost_ret (v := .tuple #[.slice none 0 0, diagV 14 k]) (by simp [c0, c1, c2, hszw, results, Tryd.results11, go_sem, diagV]) rfl (scanEnd_err k Hx.out rfl ((bset3 (L3.out.drew) (Nat.le_refl _) _ _ _)))
          · have hl16 : ((acc.length : Int) == 16384) = false := by simp; omega
            have hl17 : acc.length < 16384 := by omega
            have Hx := kept (Hu.out.trans (Sst.out hlt hb hlim))
            have Hfit := kept (fun n h => Tok.one_fit 32 s k n hlt h)
            have hone : Tok.oneW (Tok.src 32) (s.data.toList.drop k) = Tok.one 32 (s.data.toList.drop k) := rfl
            simp only [hone] at Hfit
            have hdd2 : decide (k < s.size) = true := by simpa using hlt
            have Htk := kept (fun w h hT => token_any s hs b (by have := Hszb.out; have := H2.out; omega) 0 0 k w hlt h hT hb)
            have Htb := kept (fun w' hg => tabs_grown (b := b) (w' := w') (Htb0.out) (by have := Hszb.out; have := H2.out; omega) hg)
            obtain ⟨r, hr⟩ : ∃ r, Tok.one 32 (s.data.toList.drop k) = r := ⟨_, rfl⟩
            rw [hr] at Hx Htk
            simp only [hr] at Hfit
            clear hb hone hr hlim
            cases r with
            | ok n =>
              obtain ⟨hon1, hon2⟩ := Hfit.out n rfl
              have Hx2 := kept (show U = Tok.scanF f (s.data.toList.drop (k + n)) (k + n) (acc ++ [(Tok.kindL (s.data.toList.drop k), Tok.textL (s.data.toList.drop k) n, k)]) from Hx.out)
              go_wp2_with fail
              (with_reducible refine (Hsk.out).mono ?_); rintro e w1 ⟨rfl, s1, g1⟩
              have S1 := kept s1; have G1 := kept g1; clear s1 g1
              have Hm := kept (more_any _ _ _ _ _ _ _ S1.out)
              rw [hdd] at Hm
              clear hdd
              go_wp2_with fail
              (with_reducible refine (Hm.out).mono ?_); rintro e w2 ⟨rfl, n2, rfl⟩
              go_wp2_with fail
              (with_reducible refine (Hbg.out _ (S1.out.draw n2)).mono ?_); rintro e w3 ⟨rfl, n3, hw3⟩; rw [World.drewN_drewN] at hw3
              have S3 := kept (show Sc w3 b s k (-1) 0 0 by rw [hw3]; exact S1.out.draw _)
              have G3 := kept (show wr.grownBy w3 (some b) by rw [hw3]; exact grown_trans G1.out (grown_drewN _ _ _))
              clear hw3
              have D3 := kept (Hd.out.grown G3.out (by have := Hszb.out; omega))
              have L3 := kept (below_of_grown Hl.out G3.out (by have := Hsz.out; have := Hszb.out; omega) (by have := Hszb.out; omega))
              have W3 := kept (Hw.out.grown G3.out)
              have hsz3 : b < w3.heap.size := S3.out.lt
              have hszb := Hszb.out
              have hszw : w.heap.size < w3.heap.size := by omega
              obtain ⟨c0, c1, c2, f0, f1, f2⟩ := D3.out.facts
              obtain ⟨d0, d1, d2, d3, d4, d5⟩ := S3.out.facts
              have Hm2 := kept (more_any _ _ _ _ _ _ _ S3.out)
              rw [hdd2] at Hm2
              clear hdd2 c0 c1 c2 f0 f1 f2 d0 d1 d2 d3 d4 d5
              go_wp2_with fail
              (with_reducible refine (Hm2.out).mono ?_); rintro e w4 ⟨rfl, n4, hw4⟩
              have S4 := kept (show Sc w4 b s k (-1) 0 0 by rw [hw4]; exact S3.out.draw _)
              have G4 := kept (show wr.grownBy w4 (some b) by rw [hw4]; exact grown_trans G3.out (grown_drewN _ _ _))
              have hsz4 : w4.heap.size = w3.heap.size := by rw [hw4]; rfl
              clear hw4
              go_wp2_with fail
              (with_reducible refine (Htk.out _ S4.out (Htb.out _ G4.out)).mono ?_); rintro e w5 ⟨⟨ta, tt, tc, rfl, hv⟩, g5, s5⟩
              obtain ⟨e1, e2, rfl⟩ := hv n rfl
              rw [← e1, ← e2] at Hx2
              clear e1 e2 hv
              have S5 := kept (show Sc w5 b s ((k + n : Nat) : Int) (-1) 0 0 from s5)
              have G5 := kept (grown_trans G4.out g5)
              clear s5 g5
              have D5 := kept (Hd.out.grown G5.out (by have := Hszb.out; omega))
              have L5 := kept (below_of_grown Hl.out G5.out (by have := Hsz.out; have := Hszb.out; omega) (by have := Hszb.out; omega))
              have W5 := kept (Hw.out.grown G5.out)
              have hsz5 : b < w5.heap.size := S5.out.lt
              have hszw5 : w.heap.size < w5.heap.size := by omega
              obtain ⟨c0, c1, c2, f0, f1, f2⟩ := D5.out.facts
              obtain ⟨d0, d1, d2, d3, d4, d5⟩ := S5.out.facts
              go_wp2_with (at_builtin; refine wpList_append_tok rfl _ _ rfl w.heap.size (b + 1) (.slice oa acc.length cap) acc rfl (W5.out.below ((ball w5 _).alloc (by simp) _) (Nat.le_refl _)) ((L5.out.alloc (by omega) _).alloc (by simp; omega) _) (by omega) ⟨w5.heap.size + 1, 0, none⟩ 1 (ta, tt, k) rfl ?_ ?_ ?_ ?_ ?_ ?_)
              · omega
              · simp; omega
              · intro v' w' hown' hbel' hgr
                have Ho' := kept hown'; have Hl' := kept hbel'
                have Hd' := kept (show DiagAt w' w.heap.size from (hgr.block w.heap.size (by simp; omega) (by
                  intro he
                  have := (World.ownsRow.lt W5.out w.heap.size he.symm).1
                  omega)).trans ((D5.out.below (ball w5 _)).below (ball _ _)))
                have Hs' := kept (show Sc w' b s ((k + n : Nat) : Int) (-1) 0 0 from (hgr.block b (by simp; omega) (by
                  intro he
                  have := (World.ownsRow.lt W5.out b he.symm).1
                  omega)).trans ((S5.out.below (ball w5 _)).below (ball _ _)))
                clear hown' hbel' hgr c0 c1 c2 f0 f1 f2 d0 d1 d2 d3 d4 d5
                go_wp2
                obtain ⟨a', cap', hv⟩ := Ho'.out.shape
                subst hv
                exact ⟨⟨k + n, f, acc ++ [(ta, tt, k)], a', cap', by omega, rfl, by simp; omega, by simp; omega, by omega, Hx2.out, Ho'.out, Hd'.out, Hs'.out, Hl'.out, Hs'.out.lt⟩, by rw [Hs'.out.at', Hs.out.at']; omega⟩
            | err e0 a0 =>
              have HR := kept (show U = ⟨[], e0, k + a0⟩ from Hx.out)
              go_wp2_with fail
              (with_reducible refine (Hsk.out).mono ?_); rintro e w1 ⟨rfl, s1, g1⟩
              have S1 := kept s1; have G1 := kept g1; clear s1 g1
              have Hm := kept (more_any _ _ _ _ _ _ _ S1.out)
              rw [hdd] at Hm
              clear hdd
              go_wp2_with fail
              (with_reducible refine (Hm.out).mono ?_); rintro e w2 ⟨rfl, n2, rfl⟩
              go_wp2_with fail
              (with_reducible refine (Hbg.out _ (S1.out.draw n2)).mono ?_); rintro e w3 ⟨rfl, n3, hw3⟩; rw [World.drewN_drewN] at hw3
              have S3 := kept (show Sc w3 b s k (-1) 0 0 by rw [hw3]; exact S1.out.draw _)
              have G3 := kept (show wr.grownBy w3 (some b) by rw [hw3]; exact grown_trans G1.out (grown_drewN _ _ _))
              clear hw3
              have D3 := kept (Hd.out.grown G3.out (by have := Hszb.out; omega))
              have L3 := kept (below_of_grown Hl.out G3.out (by have := Hsz.out; have := Hszb.out; omega) (by have := Hszb.out; omega))
              have W3 := kept (Hw.out.grown G3.out)
              have hsz3 : b < w3.heap.size := S3.out.lt
              have hszb := Hszb.out
              have hszw : w.heap.size < w3.heap.size := by omega
              obtain ⟨c0, c1, c2, f0, f1, f2⟩ := D3.out.facts
              obtain ⟨d0, d1, d2, d3, d4, d5⟩ := S3.out.facts
              have Hm2 := kept (more_any _ _ _ _ _ _ _ S3.out)
              rw [hdd2] at Hm2
              clear hdd2 c0 c1 c2 f0 f1 f2 d0 d1 d2 d3 d4 d5
              go_wp2_with fail
              (with_reducible refine (Hm2.out).mono ?_); rintro e w4 ⟨rfl, n4, hw4⟩
              have S4 := kept (show Sc w4 b s k (-1) 0 0 by rw [hw4]; exact S3.out.draw _)
              have G4 := kept (show wr.grownBy w4 (some b) by rw [hw4]; exact grown_trans G3.out (grown_drewN _ _ _))
              have hsz4 : w4.heap.size = w3.heap.size := by rw [hw4]; rfl
              clear hw4
              go_wp2_with fail
              (with_reducible refine (Htk.out _ S4.out (Htb.out _ G4.out)).mono ?_); rintro e w5 ⟨⟨ta, tt, tc, rfl, hv⟩, g5, k', o', s5⟩
              have S5 := kept (show Sc w5 b s k' o' e0 ((k + a0 : Nat) : Int) from s5)
              have G5 := kept (grown_trans G4.out g5)
              clear s5 g5 hv
              have D5 := kept (Hd.out.grown G5.out (by have := Hszb.out; omega))
              have L5 := kept (below_of_grown Hl.out G5.out (by have := Hsz.out; have := Hszb.out; omega) (by have := Hszb.out; omega))
              have W5 := kept (Hw.out.grown G5.out)
              have hsz5 : b < w5.heap.size := S5.out.lt
              have hszw5 : w.heap.size < w5.heap.size := by omega
              obtain ⟨c0, c1, c2, f0, f1, f2⟩ := D5.out.facts
              obtain ⟨d0, d1, d2, d3, d4, d5⟩ := S5.out.facts
              go_wp2
              go_region
              all_goals go_wp2
              all_goals exact bodyPost_ret (v := .tuple #[.slice none 0 0, diagV e0 ((k + a0 : Nat) : Int)]) (by simp [c0, c1, c2, hszw5, results, Tryd.results11, go_sem, diagV]) rfl (scanEnd_err (k + a0) HR.out rfl (((bset3 L5.out (Nat.le_refl _) _ _ _).alloc (by simp; omega) _).drew))
            | trunc =>
              have HR := kept (show U = ⟨[], 40, k⟩ from Hx.out)
              go_wp2_with fail
              (with_reducible refine (Hsk.out).mono ?_); rintro e w1 ⟨rfl, s1, g1⟩
              have S1 := kept s1; have G1 := kept g1; clear s1 g1
              have Hm := kept (more_any _ _ _ _ _ _ _ S1.out)
              rw [hdd] at Hm
              clear hdd
              go_wp2_with fail
              (with_reducible refine (Hm.out).mono ?_); rintro e w2 ⟨rfl, n2, rfl⟩
              go_wp2_with fail
              (with_reducible refine (Hbg.out _ (S1.out.draw n2)).mono ?_); rintro e w3 ⟨rfl, n3, hw3⟩; rw [World.drewN_drewN] at hw3
              have S3 := kept (show Sc w3 b s k (-1) 0 0 by rw [hw3]; exact S1.out.draw _)
              have G3 := kept (show wr.grownBy w3 (some b) by rw [hw3]; exact grown_trans G1.out (grown_drewN _ _ _))
              clear hw3
              have D3 := kept (Hd.out.grown G3.out (by have := Hszb.out; omega))
              have L3 := kept (below_of_grown Hl.out G3.out (by have := Hsz.out; have := Hszb.out; omega) (by have := Hszb.out; omega))
              have W3 := kept (Hw.out.grown G3.out)
              have hsz3 : b < w3.heap.size := S3.out.lt
              have hszb := Hszb.out
              have hszw : w.heap.size < w3.heap.size := by omega
              obtain ⟨c0, c1, c2, f0, f1, f2⟩ := D3.out.facts
              obtain ⟨d0, d1, d2, d3, d4, d5⟩ := S3.out.facts
              have Hm2 := kept (more_any _ _ _ _ _ _ _ S3.out)
              rw [hdd2] at Hm2
              clear hdd2 c0 c1 c2 f0 f1 f2 d0 d1 d2 d3 d4 d5
              go_wp2_with fail
              (with_reducible refine (Hm2.out).mono ?_); rintro e w4 ⟨rfl, n4, hw4⟩
              have S4 := kept (show Sc w4 b s k (-1) 0 0 by rw [hw4]; exact S3.out.draw _)
              have G4 := kept (show wr.grownBy w4 (some b) by rw [hw4]; exact grown_trans G3.out (grown_drewN _ _ _))
              have hsz4 : w4.heap.size = w3.heap.size := by rw [hw4]; rfl
              clear hw4
              go_wp2_with fail
              (with_reducible refine (Htk.out _ S4.out (Htb.out _ G4.out)).mono ?_); rintro e w5 ⟨⟨ta, tt, tc, rfl, hv⟩, g5, k', o', s5⟩
              have S5 := kept (show Sc w5 b s k' o' 40 k from s5)
              have G5 := kept (grown_trans G4.out g5)
              clear s5 g5 hv
              have D5 := kept (Hd.out.grown G5.out (by have := Hszb.out; omega))
              have L5 := kept (below_of_grown Hl.out G5.out (by have := Hsz.out; have := Hszb.out; omega) (by have := Hszb.out; omega))
              have W5 := kept (Hw.out.grown G5.out)
              have hsz5 : b < w5.heap.size := S5.out.lt
              have hszw5 : w.heap.size < w5.heap.size := by omega
              obtain ⟨c0, c1, c2, f0, f1, f2⟩ := D5.out.facts
              obtain ⟨d0, d1, d2, d3, d4, d5⟩ := S5.out.facts
              go_wp2
              go_region
              all_goals go_wp2
              all_goals exact bodyPost_ret (v := .tuple #[.slice none 0 0, diagV 40 k]) (by simp [c0, c1, c2, hszw5, results, Tryd.results11, go_sem, diagV]) rfl (scanEnd_err k HR.out rfl (((bset3 L5.out (Nat.le_refl _) _ _ _).alloc (by simp; omega) _).drew))
        · rw [hb] at Hbg
          have Hx := kept (Hu.out.trans (Sbad.out hlt hb))
          clear hb
          go_wp2_with fail
          (with_reducible refine (Hsk.out).mono ?_); rintro e w1 ⟨rfl, s1, g1⟩
          have S1 := kept s1; have G1 := kept g1; clear s1 g1
          have Hm := kept (more_any _ _ _ _ _ _ _ S1.out)
          rw [hdd] at Hm
          clear hdd
          go_wp2_with fail
          (with_reducible refine (Hm.out).mono ?_); rintro e w2 ⟨rfl, n2, rfl⟩
          go_wp2_with fail
          (with_reducible refine (Hbg.out _ (S1.out.draw n2)).mono ?_); rintro e w3 ⟨rfl, n3, hw3⟩; rw [World.drewN_drewN] at hw3
          have S3 := kept (show Sc w3 b s k (-1) 0 0 by rw [hw3]; exact S1.out.draw _)
          have G3 := kept (show wr.grownBy w3 (some b) by rw [hw3]; exact grown_trans G1.out (grown_drewN _ _ _))
          clear hw3
          have D3 := kept (Hd.out.grown G3.out (by have := Hszb.out; omega))
          have L3 := kept (below_of_grown Hl.out G3.out (by have := Hsz.out; have := Hszb.out; omega) (by have := Hszb.out; omega))
          have W3 := kept (Hw.out.grown G3.out)
          have hsz3 : b < w3.heap.size := S3.out.lt
          have hszb := Hszb.out
          have hszw : w.heap.size < w3.heap.size := by omega
          obtain ⟨c0, c1, c2, f0, f1, f2⟩ := D3.out.facts
          obtain ⟨d0, d1, d2, d3, d4, d5⟩ := S3.out.facts
          go_wp2
          go_region
          all_goals go_wp2
          all_goals exact bodyPost_ret (v := .tuple #[.slice none 0 0, diagV 2 k]) (by simp [c0, c1, c2, hszw, results, Tryd.results11, go_sem, diagV]) rfl (scanEnd_err k Hx.out rfl ((bset3 (L3.out.drew) (Nat.le_refl _) _ _ _)))
      · have hdd : decide (k < s.size) = false := by simpa using hlt
        by_cases hlim : acc.length = 16384
        · have hl16 : ((acc.length : Int) == 16384) = true := by simp; omega
          have Hx := kept (Hu.out.trans (Slim.out (fun h => absurd h hlt) hlim))
          clear hlim
          go_wp2_with fail
          (with_reducible refine (Hsk.out).mono ?_); rintro e w1 ⟨rfl, s1, g1⟩
          have S1 := kept s1; have G1 := kept g1; clear s1 g1
          have Hm := kept (more_any _ _ _ _ _ _ _ S1.out)
          rw [hdd] at Hm
          clear hdd
          go_wp2_with fail
          (with_reducible refine (Hm.out).mono ?_); rintro e w2 ⟨rfl, n2, rfl⟩
          have S3 := kept (S1.out.draw n2)
          have G3 := kept (grown_trans G1.out (grown_drewN w1 n2 (some b)))
          obtain ⟨w3, hw3⟩ : ∃ w3, w3 = w1.drewN n2 := ⟨_, rfl⟩
          rw [← hw3] at S3 G3 ⊢
          clear hw3
          have D3 := kept (Hd.out.grown G3.out (by have := Hszb.out; omega))
          have L3 := kept (below_of_grown Hl.out G3.out (by have := Hsz.out; have := Hszb.out; omega) (by have := Hszb.out; omega))
          have W3 := kept (Hw.out.grown G3.out)
          have hsz3 : b < w3.heap.size := S3.out.lt
          have hszb := Hszb.out
          have hszw : w.heap.size < w3.heap.size := by omega
          obtain ⟨c0, c1, c2, f0, f1, f2⟩ := D3.out.facts
          obtain ⟨d0, d1, d2, d3, d4, d5⟩ := S3.out.facts
          go_wp2
          go_region
          all_goals go_wp2
          all_goals exact bodyPost_ret (v := .tuple #[.slice none 0 0, diagV 14 k]) (by simp [c0, c1, c2, hszw, results, Tryd.results11, go_sem, diagV]) rfl (scanEnd_err k Hx.out rfl ((bset3 (L3.out.drew) (Nat.le_refl _) _ _ _)))
        · have hl16 : ((acc.length : Int) == 16384) = false := by simp; omega
          have Hx := kept (Hu.out.trans (Send.out hlt hlim))
          have hdd2 : decide (k < s.size) = false := by simpa using hlt
          clear hlim
          go_wp2_with fail
          (with_reducible refine (Hsk.out).mono ?_); rintro e w1 ⟨rfl, s1, g1⟩
          have S1 := kept s1; have G1 := kept g1; clear s1 g1
          have Hm := kept (more_any _ _ _ _ _ _ _ S1.out)
          rw [hdd] at Hm
          clear hdd
          go_wp2_with fail
          (with_reducible refine (Hm.out).mono ?_); rintro e w2 ⟨rfl, n2, rfl⟩
          have S3 := kept (S1.out.draw n2)
          have G3 := kept (grown_trans G1.out (grown_drewN w1 n2 (some b)))
          obtain ⟨w3, hw3⟩ : ∃ w3, w3 = w1.drewN n2 := ⟨_, rfl⟩
          rw [← hw3] at S3 G3 ⊢
          clear hw3
          have D3 := kept (Hd.out.grown G3.out (by have := Hszb.out; omega))
          have L3 := kept (below_of_grown Hl.out G3.out (by have := Hsz.out; have := Hszb.out; omega) (by have := Hszb.out; omega))
          have W3 := kept (Hw.out.grown G3.out)
          have hsz3 : b < w3.heap.size := S3.out.lt
          have hszb := Hszb.out
          have hszw : w.heap.size < w3.heap.size := by omega
          obtain ⟨c0, c1, c2, f0, f1, f2⟩ := D3.out.facts
          obtain ⟨d0, d1, d2, d3, d4, d5⟩ := S3.out.facts
          have Hm2 := kept (more_any _ _ _ _ _ _ _ S3.out)
          rw [hdd2] at Hm2
          clear hdd2 c0 c1 c2 f0 f1 f2 d0 d1 d2 d3 d4 d5
          go_wp2_with fail
          (with_reducible refine (Hm2.out).mono ?_); rintro e w4 ⟨rfl, n4, hw4⟩
          have S4 := kept (show Sc w4 b s k (-1) 0 0 by rw [hw4]; exact S3.out.draw _)
          have G4 := kept (show wr.grownBy w4 (some b) by rw [hw4]; exact grown_trans G3.out (grown_drewN _ _ _))
          have hsz4 : w4.heap.size = w3.heap.size := by rw [hw4]; rfl
          clear hw4
          have S5 := S4; have G5 := G4
          obtain ⟨w5, hw5⟩ : ∃ w5, w5 = w4 := ⟨_, rfl⟩
          rw [← hw5] at S5 G5 ⊢
          clear S4 G4 hsz4 hw5
          have D5 := kept (Hd.out.grown G5.out (by have := Hszb.out; omega))
          have L5 := kept (below_of_grown Hl.out G5.out (by have := Hsz.out; have := Hszb.out; omega) (by have := Hszb.out; omega))
          have W5 := kept (Hw.out.grown G5.out)
          have hsz5 : b < w5.heap.size := S5.out.lt
          have hszw5 : w.heap.size < w5.heap.size := by omega
          obtain ⟨c0, c1, c2, f0, f1, f2⟩ := D5.out.facts
          obtain ⟨d0, d1, d2, d3, d4, d5⟩ := S5.out.facts
          go_wp2_with (at_builtin; refine wpList_append_tok rfl _ _ rfl w.heap.size (b + 1) (.slice oa acc.length cap) acc rfl (W5.out.below (ball w5 _) (Nat.le_refl _)) (L5.out.alloc (by omega) _) (by omega) ⟨w5.heap.size, 0, none⟩ 1 (6, [], k) rfl ?_ ?_ ?_ ?_ ?_ ?_)
          · omega
          · first | omega | (simp; omega)
          · intro v' w' hown' hbel' hgr
            have Ho' := kept hown'; have Hl' := kept hbel'
            have Hd' := kept (show DiagAt w' w.heap.size from (hgr.block w.heap.size (by simp; omega) (by
              intro he
              have := (World.ownsRow.lt W5.out w.heap.size he.symm).1
              omega)).trans (D5.out.below (ball w5 _)))
            have hsz' : w.heap.size < w'.heap.size := by have := hgr.size; simp at this; omega
            clear hown' hbel' hgr c0 c1 c2 f0 f1 f2 d0 d1 d2 d3 d4 d5
            obtain ⟨c0, c1, c2, f0, f1, f2⟩ := Hd'.out.facts
            go_wp2
            exact bodyPost_ret (v := .tuple #[v', diagV 0 0]) (by simp [c0, c1, c2, results, Tryd.results11, go_sem, diagV]) rfl (scanEnd_ok Hx.out ((Ho'.out.set3 (by omega) _ _ _).mono (by omega)) (bset3 Hl'.out (Nat.le_refl _) _ _ _))
end Go.Proofs.YtbpaeglmanjbfaaDoor
