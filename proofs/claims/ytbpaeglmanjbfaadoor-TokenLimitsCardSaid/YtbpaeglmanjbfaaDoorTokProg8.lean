/- The walk of token's interpolation. -/
import Derived.Test.YtbpaeglmanjbfaaDoorTokProg7
namespace Go.Proofs.YtbpaeglmanjbfaaDoor
open Go.RowKit
set_option linter.unusedSimpArgs false
set_option linter.unusedVariables false
namespace Tok
def R.isOk : R → Bool
  | .ok _ => true
  | _ => false
end Tok
theorem cell_of_grown {w w' : World} {b : Nat} (h : w.grownBy w' (some b)) {a : Addr} {v : Value} (hc : w.cell? a = some v) (hne : a.block ≠ b) : w'.cell? a = some v := by
  have hl : a.block < w.heap.size := by
    rcases Nat.lt_or_ge a.block w.heap.size with h' | h'
    · exact h'
    · simp [World.cell?, Array.getElem?_eq_none h'] at hc
  rw [World.cell?_of_block (h.block a.block hl (fun he => hne (by injection he)))]; exact hc
theorem tabs_grown {w w' : World} {b : Nat} (h : Lib.Utf8Tabs 1 2 w) (hb : 2 < b) (hg : w.grownBy w' (some b)) : Lib.Utf8Tabs 1 2 w' :=
  ⟨fun c hc => cell_of_grown hg (h.1 c hc) (by simp; omega), fun i hi => ⟨cell_of_grown hg (h.2 i hi).1 (by simp; omega), cell_of_grown hg (h.2 i hi).2 (by simp; omega)⟩⟩
/-- What a reading call leaves: where the scanner stands, or its error. -/
def Rd (s : ByteArray) (b k : Nat) (o kd p q : Int) (w w' : World) (r : Tok.R) : Prop :=
  w.grownBy w' (some b) ∧ match r with
  | .ok n => Sc w' b s ((k + n : Nat) : Int) o kd p
  | .err e a => ∃ k' o', Sc w' b s k' o' e ((k + a : Nat) : Int)
  | .trunc => ∃ k' o', Sc w' b s k' o' 40 q
def BoolEnd (s : ByteArray) (b k : Nat) (o kd p q : Int) (r : Tok.R) (w : World) (e : Ending) (w' : World) : Prop := e = .returned (.bool r.isOk) ∧ Rd s b k o kd p q w w' r
def TokEnd (s : ByteArray) (b k : Nat) (o kd p q : Int) (r : Tok.R) (w : World) (e : Ending) (w' : World) : Prop :=
  (∃ (a : Int) (t : List UInt8) (c : Int), e = .returned (.tuple #[.agg #[.int .i64 a, .string ⟨t.toArray⟩, .int .i64 c], .bool r.isOk]) ∧ ∀ n, r = .ok n → a = Tok.kindL (s.data.toList.drop k) ∧ t = Tok.textL (s.data.toList.drop k) n ∧ c = k) ∧ Rd s b k o kd p q w w' r
theorem skipO_pos (o : Int) (h : 0 ≤ o) (l : List UInt8) : Tok.skipO o l = Tok.blanksN l := by unfold Tok.skipO; rw [if_neg (by omega)]
/-- A round's end: the scanner stands at j3 behind a token; the new number of open braces is op3. -/
theorem interp_round (one : List UInt8 → Tok.R) (s : ByteArray) (b k j j2 n f : Nat) (o kd p : Int) (op3 : Nat) (U : Tok.R) (w wr w4 : World) (W : World) (hkj : k + 2 ≤ j) (hjj : j ≤ j2) (hn : 1 ≤ n) (hle : j2 + n ≤ s.size) (hop : op3 ≤ j2 + n)
    (hf : s.size - j < f + 1) (hS : Sc W b s ((j2 + n : Nat) : Int) o kd p) (hr : Sc wr b s (j : Int) o kd p) (hG : w.grownBy W (some b)) (ov ov' : Value) (hov : ov = .int .i64 ((op3 : Int) + 1)) (hov' : intOf ov' ≠ 0)
    (hU : U = (Tok.innW one f op3 (s.data.toList.drop (j2 + n))).up (j - k + (j2 - j + n))) :
    (w.grownBy W (some b) ∧ ((∃ n, ov = .int .i64 0 ∧ U = .ok n ∧ Sc W b s ((k + n : Nat) : Int) o kd p) ∨ ∃ (j op f : Nat), k + 2 ≤ j ∧ j ≤ s.size ∧ op ≤ j ∧ ov = .int .i64 ((op : Int) + 1) ∧ s.size - j < f ∧ U = (Tok.innW one f op (s.data.toList.drop j)).up (j - k) ∧ Sc W b s j o kd p)) ∧
      2 * (s.size - scAt W b) + (if intOf ov = 0 then 0 else 1) < 2 * (s.size - scAt wr b) + (if intOf ov' = 0 then 0 else 1) := by
  subst hov
  refine ⟨⟨hG, .inr ⟨j2 + n, op3, f, by omega, hle, hop, rfl, by omega, by rw [hU, show j - k + (j2 - j + n) = j2 + n - k by omega], hS⟩⟩, ?_⟩
  have e1 : ¬ ((op3 : Int) + 1 = 0) := by omega
  rw [hS.at', hr.at', if_neg hov', show intOf (.int .i64 ((op3 : Int) + 1)) = (op3 : Int) + 1 from rfl, if_neg e1]
  omega
theorem interp_last (s : ByteArray) (b k j n : Nat) (o kd p : Int) (U : Tok.R) (w wr W : World) (Q : Prop) (hjn : j ≤ k + n) (hle : k + n ≤ s.size) (hS : Sc W b s ((k + n : Nat) : Int) o kd p) (hr : Sc wr b s (j : Int) o kd p) (hG : w.grownBy W (some b)) (ov ov' : Value) (hov : ov = .int .i64 0) (hov' : intOf ov' ≠ 0)
    (hU : U = .ok n) :
    (w.grownBy W (some b) ∧ ((∃ n, ov = .int .i64 0 ∧ U = .ok n ∧ Sc W b s ((k + n : Nat) : Int) o kd p) ∨ Q)) ∧
      2 * (s.size - scAt W b) + (if intOf ov = 0 then 0 else 1) < 2 * (s.size - scAt wr b) + (if intOf ov' = 0 then 0 else 1) := by
  subst hov
  refine ⟨⟨hG, .inl ⟨n, rfl, hU, hS⟩⟩, ?_⟩
  rw [hS.at', hr.at', if_neg hov', if_pos (show intOf (.int .i64 0) = 0 from rfl)]
  omega
set_option maxRecDepth 100000 in
set_option maxHeartbeats 2000000 in
theorem interp_of (one : List UInt8 → Tok.R) (d : Nat) (s : ByteArray) (hs : s.size ≤ 1000000) (b : Nat) (hb : 2 < b) (o kd p : Int) (ho0 : 0 ≤ o) (hd : d < 32)
    (ht : ∀ (j : Nat) (w : World), j < s.size → Tok.beginsB (s.data.toList.drop j) = true → Sc w b s j o kd p → Lib.Utf8Tabs 1 2 w → Calls Tryd.prog 27 #[.pointer (some ⟨b, 0, none⟩), .int .i64 ((d : Int) + 1)] w (TokEnd s b j o kd p o (one (s.data.toList.drop j)) w))
    (hnb : ∀ j, j < s.size → Tok.beginsB (s.data.toList.drop j) = false → one (s.data.toList.drop j) = .err 2 0)
    (hok : ∀ (j n : Nat), j < s.size → one (s.data.toList.drop j) = .ok n → 1 ≤ n ∧ j + n ≤ s.size)
    (hbr : ∀ (j : Nat) (hj : j < s.size) (b : UInt8), b = 125 ∨ b = 123 → s[j] = b → one (s.data.toList.drop j) = .ok 1 ∧ Tok.kindL (s.data.toList.drop j) = 4 ∧ Tok.textL (s.data.toList.drop j) 1 = [b])
    (k f : Nat) (hk : k + 2 ≤ s.size) (hf : s.size - (k + 2) < f) (w : World) (h : Sc w b s k o kd p) (hT : Lib.Utf8Tabs 1 2 w) :
    Calls Tryd.prog 67 #[.pointer (some ⟨b, 0, none⟩), .int .i64 d] w (BoolEnd s b k o kd p o ((Tok.innW one f 0 (s.data.toList.drop (k + 2))).up 2) w) := by
  obtain ⟨U, hU⟩ : ∃ U, U = (Tok.innW one f 0 (s.data.toList.drop (k + 2))).up 2 := ⟨_, rfl⟩
  rw [← hU]
  have HU := kept hU
  clear hU
  have Ht := kept ht; have Hok := kept hok; have Hbr := kept hbr; have Hnb := kept hnb; have H := kept h; have HT := kept hT
  have hk2 : ((k : Int) + 2) = ((k + 2 : Nat) : Int) := by omega
  have H2 := kept (h.setAt ((k : Int) + 2))
  obtain ⟨c0, c1, c2, c3, c4, c5⟩ := h.facts
  have f1 := h.free 1
  have hd' : ¬ (32 : Int) ≤ d := by omega
  have Hk2 := kept hk2
  clear ht hok hbr hnb h hT hk2
  go_enter Tryd.func67, Tryd.ntmps67
  go_wp2
  clear c0 c1 c2 c3 c4 c5 f1
  go_loopw [5] (fun ov wr => w.grownBy wr (some b) ∧ ((∃ n, ov = .int .i64 0 ∧ U = .ok n ∧ Sc wr b s ((k + n : Nat) : Int) o kd p) ∨ ∃ (j op f : Nat), k + 2 ≤ j ∧ j ≤ s.size ∧ op ≤ j ∧ ov = .int .i64 ((op : Int) + 1) ∧ s.size - j < f ∧ U = (Tok.innW one f op (s.data.toList.drop j)).up (j - k) ∧ Sc wr b s j o kd p)) (fun ov wr => 2 * (s.size - scAt wr b) + (if intOf ov = 0 then 0 else 1))
  case atStart => exact ⟨grown_set _ _ _ _, .inr ⟨k + 2, 0, f, Nat.le_refl _, hk, by omega, rfl, hf, by rw [HU.out, show k + 2 - k = 2 by omega], by rw [← Hk2.out]; exact H2.out⟩⟩
  case round =>
    obtain ⟨hg, hrel⟩ := hrel
    have Hg := kept hg; clear hg
    rcases hrel with ⟨n, rfl, hu, hS⟩ | ⟨j, op, f, hkj, hj, hop, rfl, hf, hu, hS⟩
    · have Hu := kept hu; have Hs := kept hS
      clear hu hS
      go_wp2
      go_ret
      exact ⟨by rw [Hu.out]; rfl, Hg.out, by rw [Hu.out]; exact Hs.out⟩
    · have Hu := kept hu; have Hs := kept hS
      clear hu hS
      obtain ⟨f, rfl⟩ : ∃ f', f = f' + 1 := ⟨f - 1, by omega⟩
      have hop0 : (0 : Int) < (op : Int) + 1 := by omega
      have Hsk := kept (fun w h => skip_any w b s j o kd p h hj hs)
      rw [skipO_pos o ho0] at Hsk
      have hjn := Tok.blanks_fit s j hj
      obtain ⟨j2, hj2⟩ : ∃ j2, j + Tok.blanksN (s.data.toList.drop j) = j2 := ⟨_, rfl⟩
      have Hst := kept (Tok.inn_at one f op s j j2 hj2)
      have Hend := kept (Tok.inn_fin one f op s j j2 hj2)
      have hjj2 : j ≤ j2 := by omega
      rw [hj2] at Hsk hjn
      clear hj2
      by_cases hlt : j2 < s.size
      · have hlt' : (j2 : Int) < s.size := by omega
        have Hx := kept (Hu.out.trans (by rw [Hst.out hlt]))
        clear Hst Hend
        have hdd : decide (j2 < s.size) = true := by simpa using hlt
        rcases bool_or (Tok.beginsB (s.data.toList.drop j2)) with hbb | hbb
        · have Ht2 := kept (fun w => Ht.out j2 w hlt hbb)
          have Hbg := kept (fun w h => begins_any w b s j2 o kd p h hlt)
          rw [hbb] at Hbg
          have Hok2 := kept (fun n => Hok.out j2 n hlt)
          have Hb125 := kept (Hbr.out j2 hlt 125 (.inl rfl))
          have Hb123 := kept (Hbr.out j2 hlt 123 (.inr rfl))
          have Hot := kept (fun n b => Tok.text_other s j2 hlt n b)
          clear hbb
          obtain ⟨r, hr⟩ : ∃ r, one (s.data.toList.drop j2) = r := ⟨_, rfl⟩
          rw [hr] at Hx Hb125 Hb123
          simp only [hr] at Ht2 Hok2
          clear hr
          cases r with
          | ok n =>
            have hon := Hok2.out n rfl
            have hon1 : 1 ≤ n := hon.1
            have hon2 : j2 + n ≤ s.size := hon.2
            have Hot2 := kept (Hot.out n)
            clear hon
            by_cases c125 : s[j2] = 125
            · obtain ⟨e1, e2, e3⟩ := Hb125.out c125
              obtain rfl : n = 1 := by injection e1
              have hx : U = Tok.R.up (j - k) (if s[j2] = 125 then (if op = 0 then .ok (j2 - j + 1) else (Tok.innW one f (op - 1) (s.data.toList.drop (j2 + 1))).up (j2 - j + 1)) else (Tok.innW one f (if s[j2] = 123 then op + 1 else op) (s.data.toList.drop (j2 + 1))).up (j2 - j + 1)) := Hx.out
              rw [if_pos c125] at hx
              have Hx := kept hx
              have E2 := kept e2; have E3 := kept e3
              clear c125 e1 hx e2 e3 Hot2 Hb123 Hb125
              go_wp2_with fail
              (with_reducible refine (Hsk.out _ Hs.out).mono ?_); rintro e w1 ⟨rfl, s1, g1⟩
              have S1 := kept s1; have G1 := kept (grown_trans Hg.out g1); clear s1 g1
              have Hm := kept (more_any _ _ _ _ _ _ _ S1.out)
              rw [hdd] at Hm
              clear hdd
              go_wp2_with fail
              (with_reducible refine (Hm.out).mono ?_); rintro e w2 ⟨rfl, n2, rfl⟩
              have S2 := kept (S1.out.draw n2)
              go_wp2_with fail
              (with_reducible refine (Hbg.out _ S2.out).mono ?_); rintro e w3 ⟨rfl, n3, hw3⟩; rw [World.drewN_drewN] at hw3; subst hw3
              have S3 := kept (S1.out.draw (n2 + n3))
              have G3 := kept (grown_trans G1.out (grown_drewN _ (n2 + n3) _))
              go_wp2_with fail
              (with_reducible refine (Ht2.out _ S3.out (tabs_grown HT.out hb G3.out)).mono ?_); rintro e w4 ⟨⟨ta, tt, tc, rfl, hv⟩, g4, s4⟩
              have G4 := kept (grown_trans G3.out g4); have S4 := kept s4; have Hv := kept hv; clear g4 s4 hv
              obtain ⟨e4, e5, e6⟩ := Hv.out 1 rfl
              rw [E2.out] at e4; rw [E3.out] at e5
              subst e4; subst e5; subst e6
              have S5 := kept S4.out
              go_wp2
              have hx2 : U = Tok.R.up (j - k) (if op = 0 then .ok (j2 - j + 1) else (Tok.innW one f (op - 1) (s.data.toList.drop (j2 + 1))).up (j2 - j + 1)) := Hx.out
              have S6 := S5.out.below (ball w4 (.cells #[.int .i64 4, .string ⟨#[125]⟩, .int .i64 j2] 36))
              by_cases hop0 : op = 0
              · subst hop0
                exact interp_last s b k j (j2 + 1 - k) o kd p U w wr _ _ (by omega) (by omega) (by rw [show k + (j2 + 1 - k) = j2 + 1 by omega]; exact S6) Hs.out (grown_trans G4.out (grown_below _ (ball _ _))) _ _ rfl (by simp [intOf]) (by rw [hx2, if_pos rfl]; simp only [Tok.R.up]; congr 1; omega)
              · exact interp_round one s b k j j2 1 f o kd p (op - 1) U w wr w4 _ hkj hjj2 (by omega) hon2 (by omega) hf S6 Hs.out (grown_trans G4.out (grown_below _ (ball _ _))) _ _ (by congr 1; omega) (by simp [intOf]; omega) (by rw [hx2, if_neg hop0, Tok.R.up_up])
            · by_cases c123 : s[j2] = 123
              · obtain ⟨e1, e2, e3⟩ := Hb123.out c123
                obtain rfl : n = 1 := by injection e1
                have hx : U = Tok.R.up (j - k) (if s[j2] = 125 then (if op = 0 then .ok (j2 - j + 1) else (Tok.innW one f (op - 1) (s.data.toList.drop (j2 + 1))).up (j2 - j + 1)) else (Tok.innW one f (if s[j2] = 123 then op + 1 else op) (s.data.toList.drop (j2 + 1))).up (j2 - j + 1)) := Hx.out
                rw [if_neg c125, if_pos c123] at hx
                have Hx := kept hx
                have E2 := kept e2; have E3 := kept e3
                clear c125 c123 e1 hx e2 e3 Hot2 Hb123 Hb125
                go_wp2_with fail
                (with_reducible refine (Hsk.out _ Hs.out).mono ?_); rintro e w1 ⟨rfl, s1, g1⟩
                have S1 := kept s1; have G1 := kept (grown_trans Hg.out g1); clear s1 g1
                have Hm := kept (more_any _ _ _ _ _ _ _ S1.out)
                rw [hdd] at Hm
                clear hdd
                go_wp2_with fail
                (with_reducible refine (Hm.out).mono ?_); rintro e w2 ⟨rfl, n2, rfl⟩
                have S2 := kept (S1.out.draw n2)
                go_wp2_with fail
                (with_reducible refine (Hbg.out _ S2.out).mono ?_); rintro e w3 ⟨rfl, n3, hw3⟩; rw [World.drewN_drewN] at hw3; subst hw3
                have S3 := kept (S1.out.draw (n2 + n3))
                have G3 := kept (grown_trans G1.out (grown_drewN _ (n2 + n3) _))
                go_wp2_with fail
                (with_reducible refine (Ht2.out _ S3.out (tabs_grown HT.out hb G3.out)).mono ?_); rintro e w4 ⟨⟨ta, tt, tc, rfl, hv⟩, g4, s4⟩
                have G4 := kept (grown_trans G3.out g4); have S4 := kept s4; have Hv := kept hv; clear g4 s4 hv
                obtain ⟨e4, e5, e6⟩ := Hv.out 1 rfl
                rw [E2.out] at e4; rw [E3.out] at e5
                subst e4; subst e5; subst e6
                have S5 := kept S4.out
                go_wp2
                have S6 := S5.out.below (ball w4 (.cells #[.int .i64 4, .string ⟨#[123]⟩, .int .i64 j2] 36))
                exact interp_round one s b k j j2 1 f o kd p (op + 1) U w wr w4 _ hkj hjj2 (by omega) hon2 (by omega) hf S6 Hs.out (grown_trans G4.out (grown_below _ (ball _ _))) _ _ (by congr 1) (by simp [intOf]; omega) (by rw [Hx.out, Tok.R.up_up])
              · have hx : U = Tok.R.up (j - k) (if s[j2] = 125 then (if op = 0 then .ok (j2 - j + n) else (Tok.innW one f (op - 1) (s.data.toList.drop (j2 + n))).up (j2 - j + n)) else (Tok.innW one f (if s[j2] = 123 then op + 1 else op) (s.data.toList.drop (j2 + n))).up (j2 - j + n)) := Hx.out
                rw [if_neg c125, if_neg c123] at hx
                have Hx := kept hx
                have Ht5 := kept (Hot2.out 125 c125); have Ht3 := kept (Hot2.out 123 c123)
                clear c125 c123 hx Hot2 Hb123 Hb125
                go_wp2_with fail
                (with_reducible refine (Hsk.out _ Hs.out).mono ?_); rintro e w1 ⟨rfl, s1, g1⟩
                have S1 := kept s1; have G1 := kept (grown_trans Hg.out g1); clear s1 g1
                have Hm := kept (more_any _ _ _ _ _ _ _ S1.out)
                rw [hdd] at Hm
                clear hdd
                go_wp2_with fail
                (with_reducible refine (Hm.out).mono ?_); rintro e w2 ⟨rfl, n2, rfl⟩
                have S2 := kept (S1.out.draw n2)
                go_wp2_with fail
                (with_reducible refine (Hbg.out _ S2.out).mono ?_); rintro e w3 ⟨rfl, n3, hw3⟩; rw [World.drewN_drewN] at hw3; subst hw3
                have S3 := kept (S1.out.draw (n2 + n3))
                have G3 := kept (grown_trans G1.out (grown_drewN _ (n2 + n3) _))
                go_wp2_with fail
                (with_reducible refine (Ht2.out _ S3.out (tabs_grown HT.out hb G3.out)).mono ?_); rintro e w4 ⟨⟨ta, tt, tc, rfl, hv⟩, g4, s4⟩
                have G4 := kept (grown_trans G3.out g4); have S4 := kept s4; have Hv := kept hv; clear g4 s4 hv
                obtain ⟨e4, e5, e6⟩ := Hv.out n rfl
                rw [← e4, ← e5] at Ht5 Ht3
                subst e6
                have S5 := kept S4.out
                clear e4 e5 Hv
                by_cases hk4 : ta = 4
                · have ht1 : tt ≠ [125] := Ht5.out hk4
                  have ht2 : tt ≠ [123] := Ht3.out hk4
                  have ht1a : (tt == [125]) = false := by simpa using ht1
                  have ht2a : (tt == [123]) = false := by simpa using ht2
                  subst hk4
                  clear ht1 ht2 Ht5 Ht3
                  go_wp2
                  exact interp_round one s b k j j2 n f o kd p op U w wr w4 _ hkj hjj2 (by omega) hon2 (by omega) hf (S5.out.below (ball w4 _)) Hs.out (grown_trans G4.out (grown_below _ (ball _ _))) _ _ rfl (by simp [intOf]; omega) (by rw [Hx.out, Tok.R.up_up])
                · have hk4a : (ta == 4) = false := by simpa using hk4
                  clear Ht5 Ht3
                  go_wp2
                  exact interp_round one s b k j j2 n f o kd p op U w wr w4 _ hkj hjj2 (by omega) hon2 (by omega) hf (S5.out.below (ball w4 _)) Hs.out (grown_trans G4.out (grown_below _ (ball _ _))) _ _ rfl (by simp [intOf]; omega) (by rw [Hx.out, Tok.R.up_up])
          | err e0 a0 =>
            have Hx2 := kept (show U = .err e0 (j - k + (j2 - j + a0)) from Hx.out)
            go_wp2_with fail
            (with_reducible refine (Hsk.out _ Hs.out).mono ?_); rintro e w1 ⟨rfl, s1, g1⟩
            have S1 := kept s1; have G1 := kept (grown_trans Hg.out g1); clear s1 g1
            have Hm := kept (more_any _ _ _ _ _ _ _ S1.out)
            rw [hdd] at Hm
            clear hdd
            go_wp2_with fail
            (with_reducible refine (Hm.out).mono ?_); rintro e w2 ⟨rfl, n2, rfl⟩
            have S2 := kept (S1.out.draw n2)
            go_wp2_with fail
            (with_reducible refine (Hbg.out _ S2.out).mono ?_); rintro e w3 ⟨rfl, n3, hw3⟩; rw [World.drewN_drewN] at hw3; subst hw3
            have S3 := kept (S1.out.draw (n2 + n3))
            have G3 := kept (grown_trans G1.out (grown_drewN _ (n2 + n3) _))
            go_wp2_with fail
            (with_reducible refine (Ht2.out _ S3.out (tabs_grown HT.out hb G3.out)).mono ?_); rintro e w4 ⟨⟨ta, tt, tc, rfl, hv⟩, g4, s4⟩
            have G4 := kept (grown_trans G3.out g4); have S4 := kept s4; have Hv := kept hv; clear g4 s4 hv
            obtain ⟨k', o', S5⟩ := S4.out
            have S6 := kept S5; clear S5
            go_wp2
            go_ret
            exact ⟨by rw [Hx2.out]; rfl, by rw [Hx2.out]; exact ⟨grown_trans G4.out (grown_below _ (ball _ _)), k', o', by rw [show k + (j - k + (j2 - j + a0)) = j2 + a0 by omega]; exact S6.out.below (ball _ _)⟩⟩
          | trunc =>
            have Hx2 := kept (show U = .trunc from Hx.out)
            go_wp2_with fail
            (with_reducible refine (Hsk.out _ Hs.out).mono ?_); rintro e w1 ⟨rfl, s1, g1⟩
            have S1 := kept s1; have G1 := kept (grown_trans Hg.out g1); clear s1 g1
            have Hm := kept (more_any _ _ _ _ _ _ _ S1.out)
            rw [hdd] at Hm
            clear hdd
            go_wp2_with fail
            (with_reducible refine (Hm.out).mono ?_); rintro e w2 ⟨rfl, n2, rfl⟩
            have S2 := kept (S1.out.draw n2)
            go_wp2_with fail
            (with_reducible refine (Hbg.out _ S2.out).mono ?_); rintro e w3 ⟨rfl, n3, hw3⟩; rw [World.drewN_drewN] at hw3; subst hw3
            have S3 := kept (S1.out.draw (n2 + n3))
            have G3 := kept (grown_trans G1.out (grown_drewN _ (n2 + n3) _))
            go_wp2_with fail
            (with_reducible refine (Ht2.out _ S3.out (tabs_grown HT.out hb G3.out)).mono ?_); rintro e w4 ⟨⟨ta, tt, tc, rfl, hv⟩, g4, s4⟩
            have G4 := kept (grown_trans G3.out g4); have S4 := kept s4; have Hv := kept hv; clear g4 s4 hv
            obtain ⟨k', o', S5⟩ := S4.out
            have S6 := kept S5; clear S5
            go_wp2
            go_ret
            exact ⟨by rw [Hx2.out]; rfl, by rw [Hx2.out]; exact ⟨grown_trans G4.out (grown_below _ (ball _ _)), k', o', S6.out.below (ball _ _)⟩⟩
        · have hnn := Hnb.out j2 hlt hbb
          have Hbg := kept (fun w h => begins_any w b s j2 o kd p h hlt)
          rw [hbb] at Hbg
          rw [hnn] at Hx
          have Hx2 := kept (show U = .err 2 (j - k + (j2 - j + 0)) from Hx.out)
          clear hnn hbb
          go_wp2_with fail
          (with_reducible refine (Hsk.out _ Hs.out).mono ?_); rintro e w1 ⟨rfl, s1, g1⟩
          have S1 := kept s1; have G1 := kept (grown_trans Hg.out g1); clear s1 g1
          have Hm := kept (more_any _ _ _ _ _ _ _ S1.out)
          rw [hdd] at Hm
          clear hdd
          go_wp2_with fail
          (with_reducible refine (Hm.out).mono ?_); rintro e w2 ⟨rfl, n2, rfl⟩
          have S2 := kept (S1.out.draw n2)
          go_wp2_with fail
          (with_reducible refine (Hbg.out _ S2.out).mono ?_); rintro e w3 ⟨rfl, n3, hw3⟩; rw [World.drewN_drewN] at hw3; subst hw3
          have S3 := kept (S1.out.draw (n2 + n3))
          have G3 := kept (grown_trans G1.out (grown_drewN _ (n2 + n3) _))
          obtain ⟨c0, c1, c2, c3, c4, c5⟩ := S3.out.facts
          go_wp2_with fail
          (with_reducible refine (fail_any _ _ _ _ _ _ _ _ _ S3.out).mono ?_); rintro e w5 ⟨rfl, s5, g5⟩
          have S5 := kept s5; have G5 := kept (grown_trans G3.out g5); clear s5 g5
          clear c0 c1 c2 c3 c4 c5
          go_wp2
          go_ret
          exact ⟨by rw [Hx2.out]; rfl, by rw [Hx2.out]; exact ⟨G5.out, _, _, by rw [show k + (j - k + (j2 - j + 0)) = j2 by omega]; exact S5.out⟩⟩
      · have Hx := kept (Hu.out.trans (by rw [Hend.out hlt]))
        have hdd : decide (j2 < s.size) = false := by simpa using hlt
        clear Hst Hend
        go_wp2_with fail
        (with_reducible refine (Hsk.out _ Hs.out).mono ?_); rintro e w1 ⟨rfl, s1, g1⟩
        have S1 := kept s1; have G1 := kept (grown_trans Hg.out g1); clear s1 g1
        have Hm := kept (more_any _ _ _ _ _ _ _ S1.out)
        rw [hdd] at Hm
        clear hdd
        go_wp2_with fail
        (with_reducible refine (Hm.out).mono ?_); rintro e w2 ⟨rfl, n2, rfl⟩
        have S2 := kept (S1.out.draw n2)
        obtain ⟨c0, c1, c2, c3, c4, c5⟩ := S2.out.facts
        go_wp2_with fail
        (with_reducible refine (fail_any _ _ _ _ _ _ _ _ _ S2.out).mono ?_); rintro e w5 ⟨rfl, s5, g5⟩
        have S5 := kept s5; have G5 := kept (grown_trans (grown_trans G1.out (grown_drewN _ n2 _)) g5); clear s5 g5
        clear c0 c1 c2 c3 c4 c5
        go_wp2
        go_ret
        have Hx2 : U = .trunc := Hx.out
        exact ⟨by rw [Hx2]; rfl, by rw [Hx2]; exact ⟨G5.out, _, _, S5.out⟩⟩
end Go.Proofs.YtbpaeglmanjbfaaDoor
