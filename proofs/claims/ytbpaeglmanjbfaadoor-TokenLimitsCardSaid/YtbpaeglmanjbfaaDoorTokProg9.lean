/- The walk of token's source. -/
import Derived.Test.YtbpaeglmanjbfaaDoorTokProg8
import Derived.Defers
import Derived.StillTailTactics
namespace Go.Proofs.YtbpaeglmanjbfaaDoor
open Go.RowKit
set_option linter.unusedSimpArgs false
set_option linter.unusedVariables false
namespace Tok
theorem pre_take (l p : List UInt8) : Lib.hasPrefix l p = decide (l.take p.length = p) := by
  rw [← Lib.hasPrefix_of_take]
  by_cases h : l.take p.length = p
  · have : p.length ≤ l.length := by have := congrArg List.length h; rw [List.length_take] at this; omega
    simp [h, this]
  · simp [h]
/-- What a string's reading is, its quotation marks counted. -/
def strR : R → R
  | .ok n => .ok (n + 2)
  | r => r.up 1
theorem one_strR (D : Nat) (s : ByteArray) (k : Nat) (hk : k < s.size) (h : s[k] = 34) : oneW (src D) (s.data.toList.drop k) = strR (src D (s.data.toList.drop (k + 1))) := by
  rw [one_string (src D) s k hk h]; rfl
end Tok
theorem source_deferred (g b : Nat) (u : FrameMode) (w : World) (hc : w.cell? ⟨g, 0, none⟩ = some (.pointer (some ⟨b, 0, none⟩))) (x : Int) (hx : w.cell? ⟨b, 258, none⟩ = some (.int .i64 x)) (hz : w.frozen? ⟨b, 258, none⟩ = false) :
    CallsD Tryd.prog 66 #[.pointer (some ⟨g, 0, none⟩)] u w fun e u' w' => u' = u ∧ (e = .returned (.tuple #[]) ∧ w' = w.setCell ⟨b, 258, none⟩ (.int .i64 (-1))) := by
  go_enter_d Tryd.func66, Tryd.ntmps66
  go_wp2
  go_end0
  exact ⟨rfl, rfl⟩
theorem src_round (inn : List UInt8 → Tok.R) (s : ByteArray) (b g k j n f : Nat) (q kd p : Int) (U : Tok.R) (w wr W : World) (hkj : k + 1 ≤ j) (hn : 1 ≤ n) (hle : j + n ≤ s.size) (hf : s.size - j < f + 1) (hS : Sc W b s ((j + n : Nat) : Int) q kd p) (hr : Sc wr b s (j : Int) q kd p)
    (hc : W.cell? ⟨g, 0, none⟩ = some (.pointer (some ⟨b, 0, none⟩))) (hG : w.grownBy W (some b)) (hU : U = ((Tok.srcW inn f (s.data.toList.drop (j + n))).up n).up (j - (k + 1))) :
    (∃ j f, k + 1 ≤ j ∧ j ≤ s.size ∧ s.size - j < f ∧ U = (Tok.srcW inn f (s.data.toList.drop j)).up (j - (k + 1)) ∧ Sc W b s j q kd p ∧ W.cell? ⟨g, 0, none⟩ = some (.pointer (some ⟨b, 0, none⟩)) ∧ w.grownBy W (some b)) ∧ s.size - scAt W b < s.size - scAt wr b := by
  refine ⟨⟨j + n, f, by omega, hle, by omega, ?_, hS, hc, hG⟩, by rw [hS.at', hr.at']; omega⟩
  rw [hU, Tok.R.up_up, show j - (k + 1) + n = j + n - (k + 1) by omega]

theorem ext0 (s : ByteArray) (j : Nat) (h : j < s.size) (h2 : 0 < (s.extract j s.size).size) : (s.extract j s.size)[0] = s[j] := by
  show (s.extract j s.size).data[0] = s.data[j]
  simp [ByteArray.data_extract]
theorem cell_new (w : World) (T : TypeId) (v : Value) : (w.alloc (.cells #[v] T)).cell? ⟨w.heap.size, 0, none⟩ = some v := by
  have := cell_of_row _ _ 0 _ _ _ (heap_alloc_new w (.cells #[v] T))
  exact this
set_option maxRecDepth 100000 in
set_option maxHeartbeats 4000000 in
theorem source_out (inn : List UInt8 → Tok.R) (d : Nat) (s : ByteArray) (hs : s.size ≤ 1000000) (b : Nat) (hb : 2 < b) (q kd p : Int) (hq0 : 0 ≤ q)
    (hi : ∀ (j : Nat) (w : World), j < s.size → (s.data.toList.drop j).take 2 = [36, 123] → Sc w b s j q kd p → Lib.Utf8Tabs 1 2 w → Calls Tryd.prog 67 #[.pointer (some ⟨b, 0, none⟩), .int .i64 d] w (BoolEnd s b j q kd p q (inn (s.data.toList.drop j)) w))
    (hok : ∀ (j n : Nat), j < s.size → inn (s.data.toList.drop j) = .ok n → 1 ≤ n ∧ j + n ≤ s.size)
    (k f : Nat) (hk : k < s.size) (hf : s.size - (k + 1) < f) (w : World) (h : Sc w b s k (-1) kd p) (hT : Lib.Utf8Tabs 1 2 w) (hqk : q = k) :
    Calls Tryd.prog 51 #[.pointer (some ⟨b, 0, none⟩), .int .i64 d] w (BoolEnd s b k (-1) kd p q (Tok.strR (Tok.srcW inn f (s.data.toList.drop (k + 1)))) w) := by
  subst hqk
  obtain ⟨U, hU⟩ : ∃ U, U = Tok.srcW inn f (s.data.toList.drop (k + 1)) := ⟨_, rfl⟩
  rw [← hU]
  have HU := kept hU
  clear hU
  have Hi := kept hi; have Hok := kept hok; have HT := kept hT
  have hbl := h.lt
  have hgb : w.heap.size ≠ b := by omega
  obtain ⟨d0, d1, d2, d3, d4, d5⟩ := h.facts
  have e1 := h.free 1; have e258 := h.free 258
  have h2 := h.below (ball w (.cells #[.pointer (some ⟨b, 0, none⟩)] 41))
  obtain ⟨c0, c1, c2, c3, c4, c5⟩ := h2.facts
  have f1 := h2.free 1; have f258 := h2.free 258
  have hcg := cell_new w 41 (.pointer (some ⟨b, 0, none⟩))
  have HS0 := kept (show Sc (((w.setCell ⟨b, 258, none⟩ (.int .i64 k)).setCell ⟨b, 1, none⟩ (.int .i64 ((k : Int) + 1))).alloc (.cells #[.pointer (some ⟨b, 0, none⟩)] 41)).drew b s ((k + 1 : Nat) : Int) (k : Int) kd p by
    rw [show ((k + 1 : Nat) : Int) = (k : Int) + 1 by omega]
    exact Sc.below (Sc.below ((h.setOuter k).setAt ((k : Int) + 1)) (ball _ (.cells #[.pointer (some ⟨b, 0, none⟩)] 41))) (bdrew _))
  have HC0 := kept (show (((w.setCell ⟨b, 258, none⟩ (.int .i64 k)).setCell ⟨b, 1, none⟩ (.int .i64 ((k : Int) + 1))).alloc (.cells #[.pointer (some ⟨b, 0, none⟩)] 41)).drew.cell? ⟨w.heap.size, 0, none⟩ = some (.pointer (some ⟨b, 0, none⟩)) by
    have h1 : ((w.setCell ⟨b, 258, none⟩ (.int .i64 k)).setCell ⟨b, 1, none⟩ (.int .i64 ((k : Int) + 1))).heap.size = w.heap.size := by simp [World.setCell]
    have := cell_new ((w.setCell ⟨b, 258, none⟩ (.int .i64 k)).setCell ⟨b, 1, none⟩ (.int .i64 ((k : Int) + 1))) 41 (.pointer (some ⟨b, 0, none⟩))
    rw [h1] at this
    exact this)
  have HG0 := kept (show w.grownBy (((w.setCell ⟨b, 258, none⟩ (.int .i64 k)).setCell ⟨b, 1, none⟩ (.int .i64 ((k : Int) + 1))).alloc (.cells #[.pointer (some ⟨b, 0, none⟩)] 41)).drew (some b) from grown_trans (grown_trans (grown_trans (grown_set _ _ _ _) (grown_set _ _ _ _)) (grown_below _ (ball _ _))) (grown_below _ (bdrew _)))
  clear hi hok h hT h2
  have hmf : ∀ (fn : Fn) (first cap : Array Value) (w : World), (Instr.makeFunc fn first cap).run Tryd.prog w = .ok (.func fn first cap) w := fun _ _ _ _ => rfl
  go_enter_defers Tryd.func51, Tryd.ntmps51
  go_wp2
  go_region
  go_wp2
  clear d0 d1 d2 d3 d4 d5 e1 e258 c0 c1 c2 c3 c4 c5 f1 f258 hcg
  go_loopw [] (fun wr => ∃ j f : Nat, k + 1 ≤ j ∧ j ≤ s.size ∧ s.size - j < f ∧ U = (Tok.srcW inn f (s.data.toList.drop j)).up (j - (k + 1)) ∧ Sc wr b s j (k : Int) kd p ∧ wr.cell? ⟨w.heap.size, 0, none⟩ = some (.pointer (some ⟨b, 0, none⟩)) ∧ w.grownBy wr (some b)) (fun wr => s.size - scAt wr b)
  case atStart => exact ⟨k + 1, f, Nat.le_refl _, hk, hf, by rw [HU.out, Nat.sub_self, Tok.R.up_zero], HS0.out, HC0.out, HG0.out⟩
  case round =>
    obtain ⟨j, f, hkj, hj, hf, hu, hS, hcg, hG⟩ := hrel
    have Hu := kept hu; have Hs := kept hS; have Hg := kept hG; have HC := kept hcg
    clear hu hS hG
    obtain ⟨f, rfl⟩ : ∃ f', f = f' + 1 := ⟨f - 1, by omega⟩
    have Hm := kept (more_any wr b s j (k : Int) kd p Hs.out)
    have Htab := kept (fun m : Nat => tabs_grown HT.out hb (grown_trans Hg.out (grown_drewN wr m (some b))))
    have Hgm := kept (fun m : Nat => grown_trans Hg.out (grown_drewN wr m (some b)))
    by_cases hlt : j < s.size
    · have hlt' : (j : Int) < s.size := by omega
      have hj2 : (j : Int) ≤ s.size := by omega
      have hdd : decide (j < s.size) = true := by simpa using hlt
      rw [hdd] at Hm
      clear hdd
      obtain ⟨c0, c1, c2, c3, c4, c5⟩ := Hs.out.facts
      have f1 := Hs.out.free 1
      have hsz : (s.extract j s.size).size = s.size - j := by simp
      have hsz0 : 0 < s.size - j := by omega
      have Hp3 : Kept (∀ w : World, Calls Tryd.prog 43 #[.string (s.extract j s.size), .string ⟨#[36, 36, 123]⟩] w fun e w' => e = .returned (.bool (decide ((s.data.toList.drop j).take 3 = [36, 36, 123]))) ∧ w' = w) := by
        refine kept fun w => ?_
        have h := Tryd.strings_HasPrefix (s.extract j s.size) ⟨#[36, 36, 123]⟩ w
        rw [Lib.extract_to_end, Tok.pre_take] at h
        exact h
      have Hp2 : Kept (∀ w : World, Calls Tryd.prog 43 #[.string (s.extract j s.size), .string ⟨#[36, 123]⟩] w fun e w' => e = .returned (.bool (decide ((s.data.toList.drop j).take 2 = [36, 123]))) ∧ w' = w) := by
        refine kept fun w => ?_
        have h := Tryd.strings_HasPrefix (s.extract j s.size) ⟨#[36, 123]⟩ w
        rw [Lib.extract_to_end, Tok.pre_take] at h
        exact h
      obtain ⟨u, huu, hu0, hu1⟩ := byte_int s[j]
      have hx0 : (((s.extract j s.size)[0]'(by rw [hsz]; omega)).toNat : Int) = u := by rw [← huu, ext0 s j hlt (by rw [hsz]; omega)]
      by_cases h34 : s[j] = 34
      · have Hx := kept (Hu.out.trans (by rw [Tok.src_quote inn f s j hlt h34]))
        have HR := kept (show U = .ok (j - (k + 1)) from Hx.out)
        obtain rfl : u = 34 := by rw [← huu, h34]; rfl
        have SF := kept (fun m : Nat => show Sc ((wr.drewN m).setCell ⟨b, 1, none⟩ (.int .i64 ((j : Int) + 1))) b s ((k + (j - (k + 1) + 2) : Nat) : Int) (k : Int) kd p by
          rw [show ((k + (j - (k + 1) + 2) : Nat) : Int) = (j : Int) + 1 by omega]; exact (Hs.out.draw m).setAt _)
        have GF := kept (fun m : Nat => grown_trans (Hgm.out m) (grown_set (wr.drewN m) b 1 (.int .i64 ((j : Int) + 1))))
        have CF := kept (fun m : Nat => cell_of_grown (grown_trans (grown_drewN wr m (some b)) (grown_set (wr.drewN m) b 1 (.int .i64 ((j : Int) + 1)))) HC.out hgb)
        clear huu h34 Hp2 Hp3 Hx
        go_wp2_with fail
        (with_reducible refine (Hm.out).mono ?_); rintro e w2 ⟨rfl, n2, rfl⟩
        go_wp2
        go_quiet (fail)
        go_wp2
        have SF := kept (SF.out (n2 + nq)); have GF := kept (GF.out (n2 + nq)); have CF := kept (CF.out (n2 + nq))
        refine leaves_cons (f := 66) (args := #[.pointer (some ⟨w.heap.size, 0, none⟩)]) (by simp) (by simp [go_sem]) ?_
        refine (source_deferred w.heap.size b _ _ CF.out _ SF.out.facts.2.2.1 (SF.out.free 258)).mono ?_
        rintro e u' w'' ⟨rfl, rfl, rfl⟩
        refine ⟨_, results_tmp rfl _ _ _, by rw [HR.out]; rfl, ?_⟩
        rw [HR.out]
        exact ⟨grown_trans GF.out (grown_set _ _ _ _), SF.out.setOuter _⟩
      have g34 : (u == 34) = false := by have := byte_neq s[j] 34 (by decide) h34; rwa [huu] at this
      by_cases h3 : (s.data.toList.drop j).take 3 = [36, 36, 123]
      · have Hx := kept (Hu.out.trans (by rw [Tok.src_esc inn f s j hlt h34 h3]))
        have hle : j + 3 ≤ s.size := by
          have := congrArg List.length h3
          rw [List.length_take, List.length_drop, show s.data.toList.length = s.size by simp, show ([36, 36, 123] : List UInt8).length = 3 from rfl] at this; omega
        have hd3 : decide ((s.data.toList.drop j).take 3 = [36, 36, 123]) = true := by simpa using h3
        rw [hd3] at Hp3
        clear h3 hd3 h34 huu Hp2
        go_wp2_with fail
        (with_reducible refine (Hm.out).mono ?_); rintro e w2 ⟨rfl, n2, rfl⟩
        go_wp2
        go_quiet (fail)
        go_wp2_with fail
        (with_reducible refine (Hp3.out _).mono ?_); rintro e w8 ⟨rfl, rfl⟩
        go_wp2
        exact src_round inn s b w.heap.size k j 3 f (k : Int) kd p U w wr _ hkj (by omega) hle hf (by rw [show ((j + 3 : Nat) : Int) = (j : Int) + 3 by omega]; exact (Hs.out.draw _).setAt _) Hs.out (cell_of_grown (grown_trans (grown_drewN wr _ (some b)) (grown_set _ b 1 _)) HC.out hgb) (grown_trans (Hgm.out _) (grown_set _ b 1 _)) Hx.out
      have hd3 : decide ((s.data.toList.drop j).take 3 = [36, 36, 123]) = false := by simpa using h3
      rw [hd3] at Hp3
      clear hd3
      by_cases h2 : (s.data.toList.drop j).take 2 = [36, 123]
      · have Hx := kept (Hu.out.trans (by rw [Tok.src_inn inn f s j hlt h34 h3 h2]))
        have hd2 : decide ((s.data.toList.drop j).take 2 = [36, 123]) = true := by simpa using h2
        rw [hd2] at Hp2
        have Hi2 := kept (fun w h1 h4 => Hi.out j w hlt h2 h1 h4)
        have Hok2 := kept (fun n => Hok.out j n hlt)
        clear h2 hd2 h3 h34 huu
        obtain ⟨r, hr⟩ : ∃ r, inn (s.data.toList.drop j) = r := ⟨_, rfl⟩
        rw [hr] at Hx
        simp only [hr] at Hi2 Hok2
        clear hr
        cases r with
        | ok n =>
          obtain ⟨hn1, hn2⟩ := Hok2.out n rfl
          have Hx2 := kept (show U = ((Tok.srcW inn f (s.data.toList.drop (j + n))).up n).up (j - (k + 1)) from Hx.out)
          go_wp2_with fail
          (with_reducible refine (Hm.out).mono ?_); rintro e w2 ⟨rfl, n2, rfl⟩
          go_wp2
          go_quiet (fail)
          go_wp2_with fail
          (with_reducible refine (Hp3.out _).mono ?_); rintro e w8 ⟨rfl, rfl⟩
          go_wp2_with fail
          (with_reducible refine (Hp2.out _).mono ?_); rintro e w8 ⟨rfl, rfl⟩
          go_wp2_with fail
          (with_reducible refine (Hi2.out _ (Hs.out.draw _) (Htab.out _)).mono ?_); rintro e w4 ⟨rfl, g4, s4⟩
          have S4 := kept s4; have G4 := kept g4; clear s4 g4
          go_wp2
          exact src_round inn s b w.heap.size k j n f (k : Int) kd p U w wr _ hkj hn1 hn2 hf S4.out Hs.out (cell_of_grown (grown_trans (grown_drewN wr _ (some b)) G4.out) HC.out hgb) (grown_trans (Hgm.out _) G4.out) Hx2.out
        | err e0 a0 =>
          have HR := kept (show U = .err e0 (j - (k + 1) + a0) from Hx.out)
          go_wp2_with fail
          (with_reducible refine (Hm.out).mono ?_); rintro e w2 ⟨rfl, n2, rfl⟩
          go_wp2
          go_quiet (fail)
          go_wp2_with fail
          (with_reducible refine (Hp3.out _).mono ?_); rintro e w8 ⟨rfl, rfl⟩
          go_wp2_with fail
          (with_reducible refine (Hp2.out _).mono ?_); rintro e w8 ⟨rfl, rfl⟩
          go_wp2_with fail
          (with_reducible refine (Hi2.out _ (Hs.out.draw _) (Htab.out _)).mono ?_); rintro e w4 ⟨rfl, g4, k', o', s4⟩
          have SF := kept (show Sc w4 b s k' o' e0 ((k + (1 + (j - (k + 1) + a0)) : Nat) : Int) by rw [show k + (1 + (j - (k + 1) + a0)) = j + a0 by omega]; exact s4)
          have CF := kept (cell_of_grown (grown_trans (grown_drewN wr _ (some b)) g4) HC.out hgb)
          have GF := kept (grown_trans (Hgm.out _) g4)
          clear s4 g4
          go_wp2
          refine leaves_cons (f := 66) (args := #[.pointer (some ⟨w.heap.size, 0, none⟩)]) (by simp) (by simp [go_sem]) ?_
          refine (source_deferred w.heap.size b _ _ CF.out _ SF.out.facts.2.2.1 (SF.out.free 258)).mono ?_
          rintro e u' w'' ⟨rfl, rfl, rfl⟩
          refine ⟨_, results_tmp rfl _ _ _, by rw [HR.out]; rfl, ?_⟩
          rw [HR.out]
          exact ⟨grown_trans GF.out (grown_set _ _ _ _), _, _, SF.out.setOuter _⟩
        | trunc =>
          have HR := kept (show U = .trunc from Hx.out)
          go_wp2_with fail
          (with_reducible refine (Hm.out).mono ?_); rintro e w2 ⟨rfl, n2, rfl⟩
          go_wp2
          go_quiet (fail)
          go_wp2_with fail
          (with_reducible refine (Hp3.out _).mono ?_); rintro e w8 ⟨rfl, rfl⟩
          go_wp2_with fail
          (with_reducible refine (Hp2.out _).mono ?_); rintro e w8 ⟨rfl, rfl⟩
          go_wp2_with fail
          (with_reducible refine (Hi2.out _ (Hs.out.draw _) (Htab.out _)).mono ?_); rintro e w4 ⟨rfl, g4, k', o', s4⟩
          have SF := kept s4
          have CF := kept (cell_of_grown (grown_trans (grown_drewN wr _ (some b)) g4) HC.out hgb)
          have GF := kept (grown_trans (Hgm.out _) g4)
          clear s4 g4
          go_wp2
          refine leaves_cons (f := 66) (args := #[.pointer (some ⟨w.heap.size, 0, none⟩)]) (by simp) (by simp [go_sem]) ?_
          refine (source_deferred w.heap.size b _ _ CF.out _ SF.out.facts.2.2.1 (SF.out.free 258)).mono ?_
          rintro e u' w'' ⟨rfl, rfl, rfl⟩
          refine ⟨_, results_tmp rfl _ _ _, by rw [HR.out]; rfl, ?_⟩
          rw [HR.out]
          exact ⟨grown_trans GF.out (grown_set _ _ _ _), _, _, SF.out.setOuter _⟩
      have hd2 : decide ((s.data.toList.drop j).take 2 = [36, 123]) = false := by simpa using h2
      rw [hd2] at Hp2
      clear hd2
      by_cases h92 : s[j] = 92
      · have Hx := kept (Hu.out.trans (by rw [Tok.src_back inn f s j hlt h34 h3 h2 h92]))
        obtain rfl : u = 92 := by rw [← huu, h92]; rfl
        have HS1 := kept (fun m : Nat => show Sc ((wr.drewN m).setCell ⟨b, 1, none⟩ (.int .i64 ((j : Int) + 1))) b s ((j + 1 : Nat) : Int) (k : Int) kd p by
          rw [show ((j + 1 : Nat) : Int) = (j : Int) + 1 by omega]; exact (Hs.out.draw m).setAt _)
        have HG1 := kept (fun m : Nat => grown_trans (grown_drewN wr m (some b)) (grown_set (wr.drewN m) b 1 (.int .i64 ((j : Int) + 1))))
        clear h2 h3 h34 h92 huu
        by_cases he : s.size ≤ j + 1
        · have hz : j + 1 = s.size := by omega
          have Hx2 := kept (show U = ((Tok.srcW inn f (s.data.toList.drop (j + 1))).up 1).up (j - (k + 1)) by
            have h := Hx.out
            rw [if_pos he] at h
            rw [h, Tok.drop_end s (j + 1) (by omega)]
            cases f <;> rfl)
          have hdd : decide (j + 1 < s.size) = false := by simp; omega
          clear he
          go_wp2_with fail
          (with_reducible refine (Hm.out).mono ?_); rintro e w2 ⟨rfl, n2, rfl⟩
          go_wp2
          go_quiet (fail)
          go_wp2_with fail
          (with_reducible refine (Hp3.out _).mono ?_); rintro e w8 ⟨rfl, rfl⟩
          go_wp2_with fail
          (with_reducible refine (Hp2.out _).mono ?_); rintro e w8 ⟨rfl, rfl⟩
          go_wp2_with fail
          (with_reducible refine (more_any _ _ _ _ _ _ _ (HS1.out _)).mono ?_); rintro e w4 ⟨rfl, n4, rfl⟩
          rw [hdd]
          go_wp2
          exact src_round inn s b w.heap.size k j 1 f (k : Int) kd p U w wr _ hkj (by omega) (by omega) hf ((HS1.out _).draw _) Hs.out (cell_of_grown (grown_trans (HG1.out _) (grown_drewN _ _ (some b))) HC.out hgb) (grown_trans Hg.out (grown_trans (HG1.out _) (grown_drewN _ _ (some b)))) Hx2.out
        · have hj1 : j + 1 < s.size := by omega
          have hx := Hx.out
          rw [if_neg he] at hx
          obtain ⟨N, hN⟩ : ∃ N, Tok.charN (s.data.toList.drop (j + 1)) = N := ⟨_, rfl⟩
          have hcl := Tok.char_le s (j + 1) hj1
          have Hch := kept (fun w h hT => character_any w b s (j + 1) (k : Int) kd p h hj1 hs hT)
          rw [hN] at Hch hcl hx
          unfold CharEnd at Hch
          have hdd : decide (j + 1 < s.size) = true := by simpa using hj1
          clear he hN
          by_cases hN0 : N = 0
          · rw [if_pos hN0] at hx
            have HR := kept (show U = .err 2 (j - (k + 1) + 1) from hx)
            have hdn : decide (N ≠ 0) = false := by simpa using hN0
            rw [hdn] at Hch
            subst hN0
            clear hx hdn
            go_wp2_with fail
            (with_reducible refine (Hm.out).mono ?_); rintro e w2 ⟨rfl, n2, rfl⟩
            go_wp2
            go_quiet (fail)
            go_wp2_with fail
            (with_reducible refine (Hp3.out _).mono ?_); rintro e w8 ⟨rfl, rfl⟩
            go_wp2_with fail
            (with_reducible refine (Hp2.out _).mono ?_); rintro e w8 ⟨rfl, rfl⟩
            go_wp2_with fail
            (with_reducible refine (more_any _ _ _ _ _ _ _ (HS1.out _)).mono ?_); rintro e w4 ⟨rfl, n4, rfl⟩
            rw [hdd]
            go_wp2_with fail
            (with_reducible refine (Hch.out _ ((HS1.out _).draw n4) (tabs_grown HT.out hb (grown_trans Hg.out (grown_trans (HG1.out _) (grown_drewN _ n4 (some b)))))).mono ?_); rintro e w5 ⟨rfl, s5, g5⟩
            have S5 := kept (show Sc w5 b s ((j + 1 : Nat) : Int) (k : Int) kd p from s5)
            have G5 := kept (grown_trans (grown_trans (HG1.out _) (grown_drewN _ n4 (some b))) g5)
            clear s5 g5
            have C5 := cell_of_grown G5.out HC.out hgb
            obtain ⟨c0, c1, c2, c3, c4, c5⟩ := S5.out.facts
            go_wp2
            have S5d : Sc w5.drew b s ((j + 1 : Nat) : Int) (k : Int) kd p := S5.out
            go_still_tail 5, (by kernel_rfl)
            change wpList _ _ _ _ _ w5.drew
            go_wp2_with fail
            (with_reducible refine (fail_any _ _ _ _ _ _ _ _ _ S5d).mono ?_); rintro e w6 ⟨rfl, s6, g6⟩
            all_goals
              have g7 := grown_trans G5.out (grown_trans (grown_below _ (bdrew w5)) g6)
              have SF := kept (show Sc w6 b s ((j + 1 : Nat) : Int) (k : Int) 2 ((k + (1 + (j - (k + 1) + 1)) : Nat) : Int) by rw [show ((k + (1 + (j - (k + 1) + 1)) : Nat) : Int) = ((j + 1 : Nat) : Int) by omega]; exact s6)
              have CF := kept (cell_of_grown g7 HC.out hgb)
              have GF := kept (grown_trans Hg.out g7)
              clear s6 g6 g7 c0 c1 c2 c3 c4 c5
              go_wp2
              refine leaves_cons (f := 66) (args := #[.pointer (some ⟨w.heap.size, 0, none⟩)]) (by simp) (by simp [go_sem]) ?_
              refine (source_deferred w.heap.size b _ _ CF.out _ SF.out.facts.2.2.1 (SF.out.free 258)).mono ?_
              rintro e u' w'' ⟨rfl, rfl, rfl⟩
              refine ⟨_, results_tmp rfl _ _ _, by rw [HR.out]; rfl, ?_⟩
              rw [HR.out]
              exact ⟨grown_trans GF.out (grown_set _ _ _ _), _, _, SF.out.setOuter _⟩
          · rw [if_neg hN0] at hx
            have Hx2 := kept (show U = ((Tok.srcW inn f (s.data.toList.drop (j + (1 + N)))).up (1 + N)).up (j - (k + 1)) by rw [hx]; congr 3; rw [show j + (1 + N) = j + 1 + N by omega])
            have hdn : decide (N ≠ 0) = true := by simpa using hN0
            rw [hdn] at Hch
            clear hx hdn
            go_wp2_with fail
            (with_reducible refine (Hm.out).mono ?_); rintro e w2 ⟨rfl, n2, rfl⟩
            go_wp2
            go_quiet (fail)
            go_wp2_with fail
            (with_reducible refine (Hp3.out _).mono ?_); rintro e w8 ⟨rfl, rfl⟩
            go_wp2_with fail
            (with_reducible refine (Hp2.out _).mono ?_); rintro e w8 ⟨rfl, rfl⟩
            go_wp2_with fail
            (with_reducible refine (more_any _ _ _ _ _ _ _ (HS1.out _)).mono ?_); rintro e w4 ⟨rfl, n4, rfl⟩
            rw [hdd]
            go_wp2_with fail
            (with_reducible refine (Hch.out _ ((HS1.out _).draw n4) (tabs_grown HT.out hb (grown_trans Hg.out (grown_trans (HG1.out _) (grown_drewN _ n4 (some b)))))).mono ?_); rintro e w5 ⟨rfl, s5, g5⟩
            have S5 := kept (show Sc w5 b s ((j + (1 + N) : Nat) : Int) (k : Int) kd p by rw [show j + (1 + N) = j + 1 + N by omega]; exact s5)
            have G5 := kept (grown_trans (grown_trans (HG1.out _) (grown_drewN _ n4 (some b))) g5)
            clear s5 g5
            go_wp2
            exact src_round inn s b w.heap.size k j (1 + N) f (k : Int) kd p U w wr _ hkj (by omega) (by omega) hf S5.out Hs.out (cell_of_grown G5.out HC.out hgb) (grown_trans Hg.out G5.out) Hx2.out
      · have g92 : (u == 92) = false := by have := byte_neq s[j] 92 (by decide) h92; rwa [huu] at this
        have hx := Hu.out.trans (by rw [Tok.src_char inn f s j hlt h34 h3 h2 h92])
        obtain ⟨N, hN⟩ : ∃ N, Tok.charN (s.data.toList.drop j) = N := ⟨_, rfl⟩
        have hcl := Tok.char_le s j hlt
        have Hch := kept (fun w h hT => character_any w b s j (k : Int) kd p h hlt hs hT)
        rw [hN] at Hch hcl hx
        unfold CharEnd at Hch
        have hdd : decide (j < s.size) = true := by simpa using hlt
        clear h2 h3 h34 h92 huu hN
        by_cases hN0 : N = 0
        · rw [if_pos hN0] at hx
          have HR := kept (show U = .err 2 (j - (k + 1) + 0) from hx)
          have hdn : decide (N ≠ 0) = false := by simpa using hN0
          rw [hdn] at Hch
          subst hN0
          clear hx hdn
          go_wp2_with fail
          (with_reducible refine (Hm.out).mono ?_); rintro e w2 ⟨rfl, n2, rfl⟩
          go_wp2
          go_quiet (fail)
          go_wp2_with fail
          (with_reducible refine (Hp3.out _).mono ?_); rintro e w8 ⟨rfl, rfl⟩
          go_wp2_with fail
          (with_reducible refine (Hp2.out _).mono ?_); rintro e w8 ⟨rfl, rfl⟩
          go_wp2_with fail
          (with_reducible refine (more_any _ _ _ _ _ _ _ (Hs.out.draw _)).mono ?_); rintro e w4 ⟨rfl, n4, hw4⟩; rw [World.drewN_drewN] at hw4; subst hw4
          rw [hdd]
          go_wp2_with fail
          (with_reducible refine (Hch.out _ (Hs.out.draw _) (Htab.out _)).mono ?_); rintro e w5 ⟨rfl, s5, g5⟩
          have S5 := kept (show Sc w5 b s (j : Int) (k : Int) kd p from s5)
          have G5 := kept (grown_trans (grown_drewN wr _ (some b)) g5)
          clear s5 g5
          have C5 := cell_of_grown G5.out HC.out hgb
          obtain ⟨c0, c1, c2, c3, c4, c5⟩ := S5.out.facts
          go_wp2
          have S5d : Sc w5.drew b s (j : Int) (k : Int) kd p := S5.out
          go_still_tail 5, (by kernel_rfl)
          change wpList _ _ _ _ _ w5.drew
          go_wp2_with fail
          (with_reducible refine (fail_any _ _ _ _ _ _ _ _ _ S5d).mono ?_); rintro e w6 ⟨rfl, s6, g6⟩
          all_goals
            have g7 := grown_trans G5.out (grown_trans (grown_below _ (bdrew w5)) g6)
            have SF := kept (show Sc w6 b s (j : Int) (k : Int) 2 ((k + (1 + (j - (k + 1) + 0)) : Nat) : Int) by rw [show ((k + (1 + (j - (k + 1) + 0)) : Nat) : Int) = (j : Int) by omega]; exact s6)
            have CF := kept (cell_of_grown g7 HC.out hgb)
            have GF := kept (grown_trans Hg.out g7)
            clear s6 g6 g7 c0 c1 c2 c3 c4 c5
            go_wp2
            refine leaves_cons (f := 66) (args := #[.pointer (some ⟨w.heap.size, 0, none⟩)]) (by simp) (by simp [go_sem]) ?_
            refine (source_deferred w.heap.size b _ _ CF.out _ SF.out.facts.2.2.1 (SF.out.free 258)).mono ?_
            rintro e u' w'' ⟨rfl, rfl, rfl⟩
            refine ⟨_, results_tmp rfl _ _ _, by rw [HR.out]; rfl, ?_⟩
            rw [HR.out]
            exact ⟨grown_trans GF.out (grown_set _ _ _ _), _, _, SF.out.setOuter _⟩
        · rw [if_neg hN0] at hx
          have Hx2 := kept (show U = ((Tok.srcW inn f (s.data.toList.drop (j + N))).up N).up (j - (k + 1)) from hx)
          have hdn : decide (N ≠ 0) = true := by simpa using hN0
          rw [hdn] at Hch
          clear hx hdn
          go_wp2_with fail
          (with_reducible refine (Hm.out).mono ?_); rintro e w2 ⟨rfl, n2, rfl⟩
          go_wp2
          go_quiet (fail)
          go_wp2_with fail
          (with_reducible refine (Hp3.out _).mono ?_); rintro e w8 ⟨rfl, rfl⟩
          go_wp2_with fail
          (with_reducible refine (Hp2.out _).mono ?_); rintro e w8 ⟨rfl, rfl⟩
          go_wp2_with fail
          (with_reducible refine (more_any _ _ _ _ _ _ _ (Hs.out.draw _)).mono ?_); rintro e w4 ⟨rfl, n4, hw4⟩; rw [World.drewN_drewN] at hw4; subst hw4
          rw [hdd]
          go_wp2_with fail
          (with_reducible refine (Hch.out _ (Hs.out.draw _) (Htab.out _)).mono ?_); rintro e w5 ⟨rfl, s5, g5⟩
          have S5 := kept s5
          have G5 := kept (grown_trans (grown_drewN wr _ (some b)) g5)
          clear s5 g5
          go_wp2
          exact src_round inn s b w.heap.size k j N f (k : Int) kd p U w wr _ hkj (by omega) (by omega) hf S5.out Hs.out (cell_of_grown G5.out HC.out hgb) (grown_trans Hg.out G5.out) Hx2.out
    · have Hx := kept (Hu.out.trans (by rw [Tok.drop_end s j hlt, Tok.src_end]))
      have HR := kept (show U = .trunc from Hx.out)
      have hdd : decide (j < s.size) = false := by simpa using hlt
      rw [hdd] at Hm
      clear hdd
      go_wp2_with fail
      (with_reducible refine (Hm.out).mono ?_); rintro e w2 ⟨rfl, n2, hw2⟩
      have S2 := kept (show Sc w2 b s (j : Int) (k : Int) kd p by rw [hw2]; exact Hs.out.draw n2)
      have S2d : Sc w2.drew b s (j : Int) (k : Int) kd p := S2.out
      have C2 : w2.cell? ⟨w.heap.size, 0, none⟩ = some (.pointer (some ⟨b, 0, none⟩)) := by rw [hw2]; exact HC.out
      have G2 := kept (show wr.grownBy w2 (some b) by rw [hw2]; exact grown_drewN _ _ _)
      have HC2 := kept C2
      clear hw2 hcg
      obtain ⟨c0, c1, c2, c3, c4, c5⟩ := S2.out.facts
      go_wp2
      go_still_tail 5, (by kernel_rfl)
      change wpList _ _ _ _ _ w2.drew
      go_wp2_with fail
      (with_reducible refine (fail_any _ _ _ _ _ _ _ _ _ S2d).mono ?_); rintro e w6 ⟨rfl, s6, g6⟩
      have g7 := grown_trans (grown_trans G2.out (grown_below _ (bdrew _))) g6
      have SF := kept s6
      have CF := kept (cell_of_grown g7 HC.out hgb)
      have GF := kept (grown_trans Hg.out g7)
      clear s6 g6 g7 c0 c1 c2 c3 c4 c5
      go_wp2
      refine leaves_cons (f := 66) (args := #[.pointer (some ⟨w.heap.size, 0, none⟩)]) (by simp) (by simp [go_sem]) ?_
      refine (source_deferred w.heap.size b _ _ CF.out _ SF.out.facts.2.2.1 (SF.out.free 258)).mono ?_
      rintro e u' w'' ⟨rfl, rfl, rfl⟩
      refine ⟨_, results_tmp rfl _ _ _, by rw [HR.out]; rfl, ?_⟩
      rw [HR.out]
      exact ⟨grown_trans GF.out (grown_set _ _ _ _), _, _, SF.out.setOuter _⟩
set_option maxRecDepth 100000 in
set_option maxHeartbeats 4000000 in
theorem source_in (inn : List UInt8 → Tok.R) (d : Nat) (s : ByteArray) (hs : s.size ≤ 1000000) (b : Nat) (hb : 2 < b) (q kd p : Int) (hq0 : 0 ≤ q)
    (hi : ∀ (j : Nat) (w : World), j < s.size → (s.data.toList.drop j).take 2 = [36, 123] → Sc w b s j q kd p → Lib.Utf8Tabs 1 2 w → Calls Tryd.prog 67 #[.pointer (some ⟨b, 0, none⟩), .int .i64 d] w (BoolEnd s b j q kd p q (inn (s.data.toList.drop j)) w))
    (hok : ∀ (j n : Nat), j < s.size → inn (s.data.toList.drop j) = .ok n → 1 ≤ n ∧ j + n ≤ s.size)
    (k f : Nat) (hk : k < s.size) (hf : s.size - (k + 1) < f) (w : World) (h : Sc w b s k q kd p) (hT : Lib.Utf8Tabs 1 2 w) :
    Calls Tryd.prog 51 #[.pointer (some ⟨b, 0, none⟩), .int .i64 d] w (BoolEnd s b k q kd p q (Tok.strR (Tok.srcW inn f (s.data.toList.drop (k + 1)))) w) := by
  obtain ⟨U, hU⟩ : ∃ U, U = Tok.srcW inn f (s.data.toList.drop (k + 1)) := ⟨_, rfl⟩
  rw [← hU]
  have HU := kept hU
  clear hU
  have Hi := kept hi; have Hok := kept hok; have HT := kept hT
  have hbl := h.lt
  have hgb : w.heap.size ≠ b := by omega
  obtain ⟨d0, d1, d2, d3, d4, d5⟩ := h.facts
  have e1 := h.free 1; have e258 := h.free 258
  have h2 := h.below (ball w (.cells #[.pointer (some ⟨b, 0, none⟩)] 41))
  obtain ⟨c0, c1, c2, c3, c4, c5⟩ := h2.facts
  have f1 := h2.free 1; have f258 := h2.free 258
  have hcg := cell_new w 41 (.pointer (some ⟨b, 0, none⟩))
  have HS0 := kept (show Sc ((w.setCell ⟨b, 1, none⟩ (.int .i64 ((k : Int) + 1))).alloc (.cells #[.pointer (some ⟨b, 0, none⟩)] 41)) b s ((k + 1 : Nat) : Int) q kd p by
    rw [show ((k + 1 : Nat) : Int) = (k : Int) + 1 by omega]
    exact Sc.below (h.setAt ((k : Int) + 1)) (ball _ (.cells #[.pointer (some ⟨b, 0, none⟩)] 41)))
  have HC0 := kept (show ((w.setCell ⟨b, 1, none⟩ (.int .i64 ((k : Int) + 1))).alloc (.cells #[.pointer (some ⟨b, 0, none⟩)] 41)).cell? ⟨w.heap.size, 0, none⟩ = some (.pointer (some ⟨b, 0, none⟩)) by
    have h1 : (w.setCell ⟨b, 1, none⟩ (.int .i64 ((k : Int) + 1))).heap.size = w.heap.size := by simp [World.setCell]
    have := cell_new (w.setCell ⟨b, 1, none⟩ (.int .i64 ((k : Int) + 1))) 41 (.pointer (some ⟨b, 0, none⟩))
    rw [h1] at this
    exact this)
  have HG0 := kept (show w.grownBy ((w.setCell ⟨b, 1, none⟩ (.int .i64 ((k : Int) + 1))).alloc (.cells #[.pointer (some ⟨b, 0, none⟩)] 41)) (some b) from grown_trans (grown_set _ _ _ _) (grown_below _ (ball _ _)))
  clear hi hok h hT h2
  have hqn : ¬ q < 0 := by omega
  go_enter Tryd.func51, Tryd.ntmps51
  go_wp2
  clear d0 d1 d2 d3 d4 d5 e1 e258 c0 c1 c2 c3 c4 c5 f1 f258 hcg
  go_loopw [] (fun wr => ∃ j f : Nat, k + 1 ≤ j ∧ j ≤ s.size ∧ s.size - j < f ∧ U = (Tok.srcW inn f (s.data.toList.drop j)).up (j - (k + 1)) ∧ Sc wr b s j q kd p ∧ wr.cell? ⟨w.heap.size, 0, none⟩ = some (.pointer (some ⟨b, 0, none⟩)) ∧ w.grownBy wr (some b)) (fun wr => s.size - scAt wr b)
  case atStart => exact ⟨k + 1, f, Nat.le_refl _, hk, hf, by rw [HU.out, Nat.sub_self, Tok.R.up_zero], HS0.out, HC0.out, HG0.out⟩
  case round =>
    obtain ⟨j, f, hkj, hj, hf, hu, hS, hcg, hG⟩ := hrel
    have Hu := kept hu; have Hs := kept hS; have Hg := kept hG; have HC := kept hcg
    clear hu hS hG
    obtain ⟨f, rfl⟩ : ∃ f', f = f' + 1 := ⟨f - 1, by omega⟩
    have Hm := kept (more_any wr b s j q kd p Hs.out)
    have Htab := kept (fun m : Nat => tabs_grown HT.out hb (grown_trans Hg.out (grown_drewN wr m (some b))))
    have Hgm := kept (fun m : Nat => grown_trans Hg.out (grown_drewN wr m (some b)))
    by_cases hlt : j < s.size
    · have hlt' : (j : Int) < s.size := by omega
      have hj2 : (j : Int) ≤ s.size := by omega
      have hdd : decide (j < s.size) = true := by simpa using hlt
      rw [hdd] at Hm
      clear hdd
      obtain ⟨c0, c1, c2, c3, c4, c5⟩ := Hs.out.facts
      have f1 := Hs.out.free 1
      have hsz : (s.extract j s.size).size = s.size - j := by simp
      have hsz0 : 0 < s.size - j := by omega
      have Hp3 : Kept (∀ w : World, Calls Tryd.prog 43 #[.string (s.extract j s.size), .string ⟨#[36, 36, 123]⟩] w fun e w' => e = .returned (.bool (decide ((s.data.toList.drop j).take 3 = [36, 36, 123]))) ∧ w' = w) := by
        refine kept fun w => ?_
        have h := Tryd.strings_HasPrefix (s.extract j s.size) ⟨#[36, 36, 123]⟩ w
        rw [Lib.extract_to_end, Tok.pre_take] at h
        exact h
      have Hp2 : Kept (∀ w : World, Calls Tryd.prog 43 #[.string (s.extract j s.size), .string ⟨#[36, 123]⟩] w fun e w' => e = .returned (.bool (decide ((s.data.toList.drop j).take 2 = [36, 123]))) ∧ w' = w) := by
        refine kept fun w => ?_
        have h := Tryd.strings_HasPrefix (s.extract j s.size) ⟨#[36, 123]⟩ w
        rw [Lib.extract_to_end, Tok.pre_take] at h
        exact h
      obtain ⟨u, huu, hu0, hu1⟩ := byte_int s[j]
      have hx0 : (((s.extract j s.size)[0]'(by rw [hsz]; omega)).toNat : Int) = u := by rw [← huu, ext0 s j hlt (by rw [hsz]; omega)]
      by_cases h34 : s[j] = 34
      · have Hx := kept (Hu.out.trans (by rw [Tok.src_quote inn f s j hlt h34]))
        have HR := kept (show U = .ok (j - (k + 1)) from Hx.out)
        obtain rfl : u = 34 := by rw [← huu, h34]; rfl
        have SF := kept (fun m : Nat => show Sc ((wr.drewN m).setCell ⟨b, 1, none⟩ (.int .i64 ((j : Int) + 1))) b s ((k + (j - (k + 1) + 2) : Nat) : Int) q kd p by
          rw [show ((k + (j - (k + 1) + 2) : Nat) : Int) = (j : Int) + 1 by omega]; exact (Hs.out.draw m).setAt _)
        have GF := kept (fun m : Nat => grown_trans (Hgm.out m) (grown_set (wr.drewN m) b 1 (.int .i64 ((j : Int) + 1))))
        have CF := kept (fun m : Nat => cell_of_grown (grown_trans (grown_drewN wr m (some b)) (grown_set (wr.drewN m) b 1 (.int .i64 ((j : Int) + 1)))) HC.out hgb)
        clear huu h34 Hp2 Hp3 Hx
        go_wp2_with fail
        (with_reducible refine (Hm.out).mono ?_); rintro e w2 ⟨rfl, n2, rfl⟩
        go_wp2
        go_quiet (fail)
        go_wp2
        have SF := kept (SF.out (n2 + nq)); have GF := kept (GF.out (n2 + nq)); have CF := kept (CF.out (n2 + nq))
        go_ret
        refine ⟨by rw [HR.out]; rfl, ?_⟩
        rw [HR.out]
        exact ⟨GF.out, SF.out⟩
      have g34 : (u == 34) = false := by have := byte_neq s[j] 34 (by decide) h34; rwa [huu] at this
      by_cases h3 : (s.data.toList.drop j).take 3 = [36, 36, 123]
      · have Hx := kept (Hu.out.trans (by rw [Tok.src_esc inn f s j hlt h34 h3]))
        have hle : j + 3 ≤ s.size := by
          have := congrArg List.length h3
          rw [List.length_take, List.length_drop, show s.data.toList.length = s.size by simp, show ([36, 36, 123] : List UInt8).length = 3 from rfl] at this; omega
        have hd3 : decide ((s.data.toList.drop j).take 3 = [36, 36, 123]) = true := by simpa using h3
        rw [hd3] at Hp3
        clear h3 hd3 h34 huu Hp2
        go_wp2_with fail
        (with_reducible refine (Hm.out).mono ?_); rintro e w2 ⟨rfl, n2, rfl⟩
        go_wp2
        go_quiet (fail)
        go_wp2_with fail
        (with_reducible refine (Hp3.out _).mono ?_); rintro e w8 ⟨rfl, rfl⟩
        go_wp2
        exact src_round inn s b w.heap.size k j 3 f q kd p U w wr _ hkj (by omega) hle hf (by rw [show ((j + 3 : Nat) : Int) = (j : Int) + 3 by omega]; exact (Hs.out.draw _).setAt _) Hs.out (cell_of_grown (grown_trans (grown_drewN wr _ (some b)) (grown_set _ b 1 _)) HC.out hgb) (grown_trans (Hgm.out _) (grown_set _ b 1 _)) Hx.out
      have hd3 : decide ((s.data.toList.drop j).take 3 = [36, 36, 123]) = false := by simpa using h3
      rw [hd3] at Hp3
      clear hd3
      by_cases h2 : (s.data.toList.drop j).take 2 = [36, 123]
      · have Hx := kept (Hu.out.trans (by rw [Tok.src_inn inn f s j hlt h34 h3 h2]))
        have hd2 : decide ((s.data.toList.drop j).take 2 = [36, 123]) = true := by simpa using h2
        rw [hd2] at Hp2
        have Hi2 := kept (fun w h1 h4 => Hi.out j w hlt h2 h1 h4)
        have Hok2 := kept (fun n => Hok.out j n hlt)
        clear h2 hd2 h3 h34 huu
        obtain ⟨r, hr⟩ : ∃ r, inn (s.data.toList.drop j) = r := ⟨_, rfl⟩
        rw [hr] at Hx
        simp only [hr] at Hi2 Hok2
        clear hr
        cases r with
        | ok n =>
          obtain ⟨hn1, hn2⟩ := Hok2.out n rfl
          have Hx2 := kept (show U = ((Tok.srcW inn f (s.data.toList.drop (j + n))).up n).up (j - (k + 1)) from Hx.out)
          go_wp2_with fail
          (with_reducible refine (Hm.out).mono ?_); rintro e w2 ⟨rfl, n2, rfl⟩
          go_wp2
          go_quiet (fail)
          go_wp2_with fail
          (with_reducible refine (Hp3.out _).mono ?_); rintro e w8 ⟨rfl, rfl⟩
          go_wp2_with fail
          (with_reducible refine (Hp2.out _).mono ?_); rintro e w8 ⟨rfl, rfl⟩
          go_wp2_with fail
          (with_reducible refine (Hi2.out _ (Hs.out.draw _) (Htab.out _)).mono ?_); rintro e w4 ⟨rfl, g4, s4⟩
          have S4 := kept s4; have G4 := kept g4; clear s4 g4
          go_wp2
          exact src_round inn s b w.heap.size k j n f q kd p U w wr _ hkj hn1 hn2 hf S4.out Hs.out (cell_of_grown (grown_trans (grown_drewN wr _ (some b)) G4.out) HC.out hgb) (grown_trans (Hgm.out _) G4.out) Hx2.out
        | err e0 a0 =>
          have HR := kept (show U = .err e0 (j - (k + 1) + a0) from Hx.out)
          go_wp2_with fail
          (with_reducible refine (Hm.out).mono ?_); rintro e w2 ⟨rfl, n2, rfl⟩
          go_wp2
          go_quiet (fail)
          go_wp2_with fail
          (with_reducible refine (Hp3.out _).mono ?_); rintro e w8 ⟨rfl, rfl⟩
          go_wp2_with fail
          (with_reducible refine (Hp2.out _).mono ?_); rintro e w8 ⟨rfl, rfl⟩
          go_wp2_with fail
          (with_reducible refine (Hi2.out _ (Hs.out.draw _) (Htab.out _)).mono ?_); rintro e w4 ⟨rfl, g4, k', o', s4⟩
          have SF := kept (show Sc w4 b s k' o' e0 ((k + (1 + (j - (k + 1) + a0)) : Nat) : Int) by rw [show k + (1 + (j - (k + 1) + a0)) = j + a0 by omega]; exact s4)
          have CF := kept (cell_of_grown (grown_trans (grown_drewN wr _ (some b)) g4) HC.out hgb)
          have GF := kept (grown_trans (Hgm.out _) g4)
          clear s4 g4
          go_wp2
          go_ret
          refine ⟨by rw [HR.out]; rfl, ?_⟩
          rw [HR.out]
          exact ⟨GF.out, _, _, SF.out⟩
        | trunc =>
          have HR := kept (show U = .trunc from Hx.out)
          go_wp2_with fail
          (with_reducible refine (Hm.out).mono ?_); rintro e w2 ⟨rfl, n2, rfl⟩
          go_wp2
          go_quiet (fail)
          go_wp2_with fail
          (with_reducible refine (Hp3.out _).mono ?_); rintro e w8 ⟨rfl, rfl⟩
          go_wp2_with fail
          (with_reducible refine (Hp2.out _).mono ?_); rintro e w8 ⟨rfl, rfl⟩
          go_wp2_with fail
          (with_reducible refine (Hi2.out _ (Hs.out.draw _) (Htab.out _)).mono ?_); rintro e w4 ⟨rfl, g4, k', o', s4⟩
          have SF := kept s4
          have CF := kept (cell_of_grown (grown_trans (grown_drewN wr _ (some b)) g4) HC.out hgb)
          have GF := kept (grown_trans (Hgm.out _) g4)
          clear s4 g4
          go_wp2
          go_ret
          refine ⟨by rw [HR.out]; rfl, ?_⟩
          rw [HR.out]
          exact ⟨GF.out, _, _, SF.out⟩
      have hd2 : decide ((s.data.toList.drop j).take 2 = [36, 123]) = false := by simpa using h2
      rw [hd2] at Hp2
      clear hd2
      by_cases h92 : s[j] = 92
      · have Hx := kept (Hu.out.trans (by rw [Tok.src_back inn f s j hlt h34 h3 h2 h92]))
        obtain rfl : u = 92 := by rw [← huu, h92]; rfl
        have HS1 := kept (fun m : Nat => show Sc ((wr.drewN m).setCell ⟨b, 1, none⟩ (.int .i64 ((j : Int) + 1))) b s ((j + 1 : Nat) : Int) q kd p by
          rw [show ((j + 1 : Nat) : Int) = (j : Int) + 1 by omega]; exact (Hs.out.draw m).setAt _)
        have HG1 := kept (fun m : Nat => grown_trans (grown_drewN wr m (some b)) (grown_set (wr.drewN m) b 1 (.int .i64 ((j : Int) + 1))))
        clear h2 h3 h34 h92 huu
        by_cases he : s.size ≤ j + 1
        · have hz : j + 1 = s.size := by omega
          have Hx2 := kept (show U = ((Tok.srcW inn f (s.data.toList.drop (j + 1))).up 1).up (j - (k + 1)) by
            have h := Hx.out
            rw [if_pos he] at h
            rw [h, Tok.drop_end s (j + 1) (by omega)]
            cases f <;> rfl)
          have hdd : decide (j + 1 < s.size) = false := by simp; omega
          clear he
          go_wp2_with fail
          (with_reducible refine (Hm.out).mono ?_); rintro e w2 ⟨rfl, n2, rfl⟩
          go_wp2
          go_quiet (fail)
          go_wp2_with fail
          (with_reducible refine (Hp3.out _).mono ?_); rintro e w8 ⟨rfl, rfl⟩
          go_wp2_with fail
          (with_reducible refine (Hp2.out _).mono ?_); rintro e w8 ⟨rfl, rfl⟩
          go_wp2_with fail
          (with_reducible refine (more_any _ _ _ _ _ _ _ (HS1.out _)).mono ?_); rintro e w4 ⟨rfl, n4, rfl⟩
          rw [hdd]
          go_wp2
          exact src_round inn s b w.heap.size k j 1 f q kd p U w wr _ hkj (by omega) (by omega) hf ((HS1.out _).draw _) Hs.out (cell_of_grown (grown_trans (HG1.out _) (grown_drewN _ _ (some b))) HC.out hgb) (grown_trans Hg.out (grown_trans (HG1.out _) (grown_drewN _ _ (some b)))) Hx2.out
        · have hj1 : j + 1 < s.size := by omega
          have hx := Hx.out
          rw [if_neg he] at hx
          obtain ⟨N, hN⟩ : ∃ N, Tok.charN (s.data.toList.drop (j + 1)) = N := ⟨_, rfl⟩
          have hcl := Tok.char_le s (j + 1) hj1
          have Hch := kept (fun w h hT => character_any w b s (j + 1) q kd p h hj1 hs hT)
          rw [hN] at Hch hcl hx
          unfold CharEnd at Hch
          have hdd : decide (j + 1 < s.size) = true := by simpa using hj1
          clear he hN
          by_cases hN0 : N = 0
          · rw [if_pos hN0] at hx
            have HR := kept (show U = .err 2 (j - (k + 1) + 1) from hx)
            have hdn : decide (N ≠ 0) = false := by simpa using hN0
            rw [hdn] at Hch
            subst hN0
            clear hx hdn
            go_wp2_with fail
            (with_reducible refine (Hm.out).mono ?_); rintro e w2 ⟨rfl, n2, rfl⟩
            go_wp2
            go_quiet (fail)
            go_wp2_with fail
            (with_reducible refine (Hp3.out _).mono ?_); rintro e w8 ⟨rfl, rfl⟩
            go_wp2_with fail
            (with_reducible refine (Hp2.out _).mono ?_); rintro e w8 ⟨rfl, rfl⟩
            go_wp2_with fail
            (with_reducible refine (more_any _ _ _ _ _ _ _ (HS1.out _)).mono ?_); rintro e w4 ⟨rfl, n4, rfl⟩
            rw [hdd]
            go_wp2_with fail
            (with_reducible refine (Hch.out _ ((HS1.out _).draw n4) (tabs_grown HT.out hb (grown_trans Hg.out (grown_trans (HG1.out _) (grown_drewN _ n4 (some b)))))).mono ?_); rintro e w5 ⟨rfl, s5, g5⟩
            have S5 := kept (show Sc w5 b s ((j + 1 : Nat) : Int) q kd p from s5)
            have G5 := kept (grown_trans (grown_trans (HG1.out _) (grown_drewN _ n4 (some b))) g5)
            clear s5 g5
            have C5 := cell_of_grown G5.out HC.out hgb
            obtain ⟨c0, c1, c2, c3, c4, c5⟩ := S5.out.facts
            go_wp2
            have S5d : Sc w5.drew b s ((j + 1 : Nat) : Int) q kd p := S5.out
            go_still_tail 5, (by kernel_rfl)
            change wpList _ _ _ _ _ w5.drew
            go_wp2_with fail
            (with_reducible refine (fail_any _ _ _ _ _ _ _ _ _ S5d).mono ?_); rintro e w6 ⟨rfl, s6, g6⟩
            all_goals
              have g7 := grown_trans G5.out (grown_trans (grown_below _ (bdrew w5)) g6)
              have SF := kept (show Sc w6 b s ((j + 1 : Nat) : Int) q 2 ((k + (1 + (j - (k + 1) + 1)) : Nat) : Int) by rw [show ((k + (1 + (j - (k + 1) + 1)) : Nat) : Int) = ((j + 1 : Nat) : Int) by omega]; exact s6)
              have CF := kept (cell_of_grown g7 HC.out hgb)
              have GF := kept (grown_trans Hg.out g7)
              clear s6 g6 g7 c0 c1 c2 c3 c4 c5
              go_wp2
              go_ret
              refine ⟨by rw [HR.out]; rfl, ?_⟩
              rw [HR.out]
              exact ⟨GF.out, _, _, SF.out⟩
          · rw [if_neg hN0] at hx
            have Hx2 := kept (show U = ((Tok.srcW inn f (s.data.toList.drop (j + (1 + N)))).up (1 + N)).up (j - (k + 1)) by rw [hx]; congr 3; rw [show j + (1 + N) = j + 1 + N by omega])
            have hdn : decide (N ≠ 0) = true := by simpa using hN0
            rw [hdn] at Hch
            clear hx hdn
            go_wp2_with fail
            (with_reducible refine (Hm.out).mono ?_); rintro e w2 ⟨rfl, n2, rfl⟩
            go_wp2
            go_quiet (fail)
            go_wp2_with fail
            (with_reducible refine (Hp3.out _).mono ?_); rintro e w8 ⟨rfl, rfl⟩
            go_wp2_with fail
            (with_reducible refine (Hp2.out _).mono ?_); rintro e w8 ⟨rfl, rfl⟩
            go_wp2_with fail
            (with_reducible refine (more_any _ _ _ _ _ _ _ (HS1.out _)).mono ?_); rintro e w4 ⟨rfl, n4, rfl⟩
            rw [hdd]
            go_wp2_with fail
            (with_reducible refine (Hch.out _ ((HS1.out _).draw n4) (tabs_grown HT.out hb (grown_trans Hg.out (grown_trans (HG1.out _) (grown_drewN _ n4 (some b)))))).mono ?_); rintro e w5 ⟨rfl, s5, g5⟩
            have S5 := kept (show Sc w5 b s ((j + (1 + N) : Nat) : Int) q kd p by rw [show j + (1 + N) = j + 1 + N by omega]; exact s5)
            have G5 := kept (grown_trans (grown_trans (HG1.out _) (grown_drewN _ n4 (some b))) g5)
            clear s5 g5
            go_wp2
            exact src_round inn s b w.heap.size k j (1 + N) f q kd p U w wr _ hkj (by omega) (by omega) hf S5.out Hs.out (cell_of_grown G5.out HC.out hgb) (grown_trans Hg.out G5.out) Hx2.out
      · have g92 : (u == 92) = false := by have := byte_neq s[j] 92 (by decide) h92; rwa [huu] at this
        have hx := Hu.out.trans (by rw [Tok.src_char inn f s j hlt h34 h3 h2 h92])
        obtain ⟨N, hN⟩ : ∃ N, Tok.charN (s.data.toList.drop j) = N := ⟨_, rfl⟩
        have hcl := Tok.char_le s j hlt
        have Hch := kept (fun w h hT => character_any w b s j q kd p h hlt hs hT)
        rw [hN] at Hch hcl hx
        unfold CharEnd at Hch
        have hdd : decide (j < s.size) = true := by simpa using hlt
        clear h2 h3 h34 h92 huu hN
        by_cases hN0 : N = 0
        · rw [if_pos hN0] at hx
          have HR := kept (show U = .err 2 (j - (k + 1) + 0) from hx)
          have hdn : decide (N ≠ 0) = false := by simpa using hN0
          rw [hdn] at Hch
          subst hN0
          clear hx hdn
          go_wp2_with fail
          (with_reducible refine (Hm.out).mono ?_); rintro e w2 ⟨rfl, n2, rfl⟩
          go_wp2
          go_quiet (fail)
          go_wp2_with fail
          (with_reducible refine (Hp3.out _).mono ?_); rintro e w8 ⟨rfl, rfl⟩
          go_wp2_with fail
          (with_reducible refine (Hp2.out _).mono ?_); rintro e w8 ⟨rfl, rfl⟩
          go_wp2_with fail
          (with_reducible refine (more_any _ _ _ _ _ _ _ (Hs.out.draw _)).mono ?_); rintro e w4 ⟨rfl, n4, hw4⟩; rw [World.drewN_drewN] at hw4; subst hw4
          rw [hdd]
          go_wp2_with fail
          (with_reducible refine (Hch.out _ (Hs.out.draw _) (Htab.out _)).mono ?_); rintro e w5 ⟨rfl, s5, g5⟩
          have S5 := kept (show Sc w5 b s (j : Int) q kd p from s5)
          have G5 := kept (grown_trans (grown_drewN wr _ (some b)) g5)
          clear s5 g5
          have C5 := cell_of_grown G5.out HC.out hgb
          obtain ⟨c0, c1, c2, c3, c4, c5⟩ := S5.out.facts
          go_wp2
          have S5d : Sc w5.drew b s (j : Int) q kd p := S5.out
          go_still_tail 5, (by kernel_rfl)
          change wpList _ _ _ _ _ w5.drew
          go_wp2_with fail
          (with_reducible refine (fail_any _ _ _ _ _ _ _ _ _ S5d).mono ?_); rintro e w6 ⟨rfl, s6, g6⟩
          all_goals
            have g7 := grown_trans G5.out (grown_trans (grown_below _ (bdrew w5)) g6)
            have SF := kept (show Sc w6 b s (j : Int) q 2 ((k + (1 + (j - (k + 1) + 0)) : Nat) : Int) by rw [show ((k + (1 + (j - (k + 1) + 0)) : Nat) : Int) = (j : Int) by omega]; exact s6)
            have CF := kept (cell_of_grown g7 HC.out hgb)
            have GF := kept (grown_trans Hg.out g7)
            clear s6 g6 g7 c0 c1 c2 c3 c4 c5
            go_wp2
            go_ret
            refine ⟨by rw [HR.out]; rfl, ?_⟩
            rw [HR.out]
            exact ⟨GF.out, _, _, SF.out⟩
        · rw [if_neg hN0] at hx
          have Hx2 := kept (show U = ((Tok.srcW inn f (s.data.toList.drop (j + N))).up N).up (j - (k + 1)) from hx)
          have hdn : decide (N ≠ 0) = true := by simpa using hN0
          rw [hdn] at Hch
          clear hx hdn
          go_wp2_with fail
          (with_reducible refine (Hm.out).mono ?_); rintro e w2 ⟨rfl, n2, rfl⟩
          go_wp2
          go_quiet (fail)
          go_wp2_with fail
          (with_reducible refine (Hp3.out _).mono ?_); rintro e w8 ⟨rfl, rfl⟩
          go_wp2_with fail
          (with_reducible refine (Hp2.out _).mono ?_); rintro e w8 ⟨rfl, rfl⟩
          go_wp2_with fail
          (with_reducible refine (more_any _ _ _ _ _ _ _ (Hs.out.draw _)).mono ?_); rintro e w4 ⟨rfl, n4, hw4⟩; rw [World.drewN_drewN] at hw4; subst hw4
          rw [hdd]
          go_wp2_with fail
          (with_reducible refine (Hch.out _ (Hs.out.draw _) (Htab.out _)).mono ?_); rintro e w5 ⟨rfl, s5, g5⟩
          have S5 := kept s5
          have G5 := kept (grown_trans (grown_drewN wr _ (some b)) g5)
          clear s5 g5
          go_wp2
          exact src_round inn s b w.heap.size k j N f q kd p U w wr _ hkj (by omega) (by omega) hf S5.out Hs.out (cell_of_grown G5.out HC.out hgb) (grown_trans Hg.out G5.out) Hx2.out
    · have Hx := kept (Hu.out.trans (by rw [Tok.drop_end s j hlt, Tok.src_end]))
      have HR := kept (show U = .trunc from Hx.out)
      have hdd : decide (j < s.size) = false := by simpa using hlt
      rw [hdd] at Hm
      clear hdd
      go_wp2_with fail
      (with_reducible refine (Hm.out).mono ?_); rintro e w2 ⟨rfl, n2, hw2⟩
      have S2 := kept (show Sc w2 b s (j : Int) q kd p by rw [hw2]; exact Hs.out.draw n2)
      have S2d : Sc w2.drew b s (j : Int) q kd p := S2.out
      have C2 : w2.cell? ⟨w.heap.size, 0, none⟩ = some (.pointer (some ⟨b, 0, none⟩)) := by rw [hw2]; exact HC.out
      have G2 := kept (show wr.grownBy w2 (some b) by rw [hw2]; exact grown_drewN _ _ _)
      have HC2 := kept C2
      clear hw2 hcg
      obtain ⟨c0, c1, c2, c3, c4, c5⟩ := S2.out.facts
      go_wp2
      go_still_tail 5, (by kernel_rfl)
      change wpList _ _ _ _ _ w2.drew
      go_wp2_with fail
      (with_reducible refine (fail_any _ _ _ _ _ _ _ _ _ S2d).mono ?_); rintro e w6 ⟨rfl, s6, g6⟩
      have g7 := grown_trans (grown_trans G2.out (grown_below _ (bdrew _))) g6
      have SF := kept s6
      have CF := kept (cell_of_grown g7 HC.out hgb)
      have GF := kept (grown_trans Hg.out g7)
      clear s6 g6 g7 c0 c1 c2 c3 c4 c5
      go_wp2
      go_ret
      refine ⟨by rw [HR.out]; rfl, ?_⟩
      rw [HR.out]
      exact ⟨GF.out, _, _, SF.out⟩
end Go.Proofs.YtbpaeglmanjbfaaDoor
