/- The walk of the law TokenTails. -/
import Derived.Test.YtbpaeglmanjbfaaDoorTokLaw1
import Derived.Test.YtbpaeglmanjbfaaDoorTokTail
import Derived.IntWalk
namespace Go.Proofs.YtbpaeglmanjbfaaDoor
open Go.RowKit
set_option linter.unusedSimpArgs false
set_option linter.unusedVariables false
theorem ReadsT.prefix' {w : World} {a : Option Addr} {cap n : Nat} {l : List Tok.TI} (h : ReadsT w (.slice a l.length cap) l) (hn : n ≤ l.length) : ReadsT w (.slice a n cap) (l.take n) := by
  obtain ⟨a', cap', hv, hcap, hc⟩ := h
  injection hv with h1 _ h3
  subst h1; subst h3
  have hln : (l.take n).length = n := by rw [List.length_take]; omega
  refine ⟨a, cap, by rw [hln], by omega, fun i hi => ?_⟩
  obtain ⟨g, off, hga, x0, x1, x2⟩ := hc i (by omega)
  exact ⟨g, off, hga, by simpa using x0, by simpa using x1, by simpa using x2⟩
namespace Tok
theorem toI_take (l : List T) (n : Nat) : (toI l).take n = toI (l.take n) := by simp [toI, List.map_take]
theorem index_no (c : List UInt8) (h : ¬ 0 ≤ Lib.indexByte c 10) : (10 : UInt8) ∉ c := by
  have h1 := Lib.indexByte_ge c 10
  have h2 := Lib.indexByte_none (show Lib.indexByte c 10 = -1 by omega)
  intro hm
  obtain ⟨i, hi, he⟩ := List.mem_iff_getElem.1 hm
  exact h2 i (by rw [List.getElem?_eq_getElem hi, he])
theorem repeat_blank : ∀ n : Nat, Lib.repeatL [32] n = List.replicate n 32 := by
  intro n
  induction n with
  | zero => rfl
  | succ n ih => rw [List.replicate_succ, ← ih]; rfl
end Tok
set_option maxRecDepth 100000 in
set_option maxHeartbeats 8000000 in
theorem tokenTails_any (s c : ByteArray) (z : Int) (w : World) (hz0 : 0 ≤ z) (hz1 : z < 256) (hT : Lib.Utf8Tabs 1 2 w) (hs : s.size ≤ 9223372036854775807) (hcs : c.size ≤ 9223372036854775807) :
    Calls Tryd.prog 8 #[.string s, .int .u8 z, .string c] w fun e w' => e = .returned (.bool true) ∧ Below w.heap.size w w' := by
  have Ha := kept (fun w hT => awake_any w hT)
  have HT := kept hT
  clear hT
  by_cases hbig : 3000 < s.size
  · have hbig' : (3000 : Int) < s.size := by omega
    clear hs hcs
    go_enter Tryd.func8, Tryd.ntmps8
    go_wp2_with fail
    (with_reducible refine (Ha.out _ HT.out).mono ?_); rintro e w1 ⟨rfl, b1⟩
    have B1 := kept b1; clear b1
    go_wp2
    go_ret
    exact ⟨rfl, B1.out⟩
  · have hbig' : ¬ (3000 : Int) < s.size := by omega
    have hb1 : decide ((3000 : Int) < s.size) = false := by simpa using hbig'
    by_cases hcb : 300 < c.size
    · have hcb' : (300 : Int) < c.size := by omega
      clear hs hcs
      go_enter Tryd.func8, Tryd.ntmps8
      go_wp2_with fail
      (with_reducible refine (Ha.out _ HT.out).mono ?_); rintro e w1 ⟨rfl, b1⟩
      have B1 := kept b1; clear b1
      go_wp2
      go_ret
      exact ⟨rfl, B1.out⟩
    · have hcb' : ¬ (300 : Int) < c.size := by omega
      have hb2 : decide ((300 : Int) < c.size) = false := by simpa using hcb'
      have Hc : Kept (∀ w : World, Calls Tryd.prog 21 #[.string c, .string ⟨#[10]⟩] w fun e w' => e = .returned (.bool (decide (0 ≤ Lib.indexByte c.data.toList 10))) ∧ w = w') := kept (fun w => (Tryd.strings_Contains_one c 10 w).mono fun e w' h => ⟨h.1, h.2.symm⟩)
      by_cases hnl : 0 ≤ Lib.indexByte c.data.toList 10
      · rw [decide_eq_true hnl] at Hc
        clear hs hcs hnl
        go_enter Tryd.func8, Tryd.ntmps8
        go_wp2_with fail
        (with_reducible refine (Hc.out _).mono ?_); rintro e w1 ⟨rfl, rfl⟩
        go_wp2_with fail
        (with_reducible refine (Ha.out _ HT.out).mono ?_); rintro e w1 ⟨rfl, b1⟩
        have B1 := kept b1; clear b1
        go_wp2
        go_ret
        exact ⟨rfl, B1.out⟩
      · rw [decide_eq_false hnl] at Hc
        have Hnl := kept (Tok.index_no _ hnl)
        clear hnl
        have H1 := kept (fun w hT => scan_any s (by omega) w hT)
        obtain ⟨U, hU⟩ : ∃ U, Tok.scan s.data.toList = U := ⟨_, rfl⟩
        rw [hU] at H1
        have HU := kept hU
        have hln : U.toks.length ≤ 16385 := by rw [← hU]; exact Tok.scan_len _
        clear hU
        obtain ⟨l, e0, p⟩ := U
        have hll : l.length ≤ 16385 := hln
        clear hln hs hcs
        by_cases he : e0 = 0
        · subst he
          by_cases hl2 : l.length < 2
          · have hl2' : (l.length : Int) < 2 := by omega
            go_enter Tryd.func8, Tryd.ntmps8
            go_wp2_with fail
            (with_reducible refine (Hc.out _).mono ?_); rintro e w1 ⟨rfl, rfl⟩
            go_wp2_with fail
            (with_reducible refine (H1.out _ HT.out).mono ?_); rintro e w1 ⟨v, rfl, ho, b1⟩
            have Ho := kept (show OwnsT w1 w.heap.size v l from ho); have B1 := kept b1; clear ho b1
            obtain ⟨a, cap, hv⟩ := Ho.out.shape
            subst hv
            have B2 := kept (bthen B1.out (ball w1 (.cells #[.int .i64 0, .int .i64 p, .string ⟨#[]⟩] 26)))
            go_wp2_with fail
            (with_reducible refine (Ha.out _ (Utf8Tabs_below HT.out B2.out)).mono ?_); rintro e w6 ⟨rfl, b6⟩
            have B6 := kept (bthen B2.out b6)
            clear b6
            go_wp2
            go_ret
            exact ⟨rfl, B6.out⟩
          · obtain ⟨m, hm⟩ : ∃ m, l.length = m + 2 := ⟨l.length - 2, by omega⟩
            have hl2' : ¬ (l.length : Int) < 2 := by omega
            have hd2 : decide ((l.length : Int) < 2) = false := by simpa using hl2'
            have hml : m < l.length := by omega
            have hw1 : IntKind.i64.wrap ((l.length : Int) - 2) = (m : Int) := by rw [IntWalk.i64_in _ (by omega)]; omega
            have hml' : (m : Int) < l.length := by omega
            have Hm := kept hm
            obtain ⟨⟨k1, t1, a1⟩, hx⟩ : ∃ x, l[m] = x := ⟨_, rfl⟩
            have Hx := kept hx
            clear hm hx
            by_cases hk5 : k1 = 5
            · subst hk5
              obtain ⟨n, hn⟩ : ∃ n : Nat, z % 8 = n := ⟨(z % 8).toNat, by omega⟩
              have hn8 : n < 8 := by omega
              have Hr : Kept (∀ w : World, Calls Tryd.prog 22 #[.string ⟨#[32]⟩, .int .i64 (z % 8)] w fun e w' => e = .returned (.string ⟨(List.replicate n 32).toArray⟩) ∧ Below w.heap.size w w') := by
                refine kept fun w => ?_
                have h := Tryd.strings_Repeat ⟨#[32]⟩ n w (by omega) (by show 1 * n ≤ _; omega)
                rw [show (⟨#[32]⟩ : ByteArray).data.toList = [32] from rfl, Tok.repeat_blank, ← hn] at h
                exact h
              have hLs : s.data.toList.length = s.size := by simp
              have hLc : c.data.toList.length = c.size := by simp
              obtain ⟨Rl, hRl⟩ : ∃ Rl, List.replicate n (32 : UInt8) = Rl := ⟨_, rfl⟩
              have hRn : Rl.length = n := by rw [← hRl]; simp
              rw [hRl] at Hr
              obtain ⟨T1, hT1⟩ : ∃ T1, s.data.toList ++ Rl = T1 := ⟨_, rfl⟩
              obtain ⟨T2, hT2⟩ : ∃ T2, T1 ++ [35] = T2 := ⟨_, rfl⟩
              obtain ⟨X, hX⟩ : ∃ X, T2 ++ c.data.toList = X := ⟨_, rfl⟩
              have hXe : X = s.data.toList ++ (List.replicate n 32 ++ 35 :: c.data.toList) := by rw [← hX, ← hT2, ← hT1, hRl]; simp
              have hT1l : T1.length = s.size + n := by rw [← hT1, List.length_append, hLs, hRn]
              have hT2l : T2.length = s.size + n + 1 := by rw [← hT2, List.length_append, hT1l]; rfl
              have hXl : X.length = s.size + n + 1 + c.size := by rw [← hX, List.length_append, hT2l, hLc]
              have hc1 : ∀ w : World, (Op.stringOp .add s ⟨Rl.toArray⟩).run Tryd.prog w = .ok (.string ⟨T1.toArray⟩) w := fun w => by rw [← hT1]; exact run_cat w rfl rfl (by omega)
              have hc2 : ∀ w : World, (Op.stringOp .add ⟨T1.toArray⟩ ⟨#[35]⟩).run Tryd.prog w = .ok (.string ⟨T2.toArray⟩) w := fun w => by rw [← hT2]; exact run_cat w rfl rfl (by simp; omega)
              have hc3 : ∀ w : World, (Op.stringOp .add ⟨T2.toArray⟩ c).run Tryd.prog w = .ok (.string ⟨X.toArray⟩) w := fun w => by rw [← hX]; exact run_cat w rfl rfl (by omega)
              have hst := Tok.scan_chain s.data.toList
              rw [HU.out] at hst
              obtain ⟨hch, hlen4⟩ : Tok.Chain s.data.toList 0 l ∧ l.length ≤ 16384 := by
                rcases hst with ⟨h, _⟩ | ⟨_, _, h3, h4⟩
                · exact absurd rfl h
                · exact ⟨h3, h4⟩
              have hscX : Tok.scan X = ⟨l.dropLast ++ [(6, [], X.length)], 0, 0⟩ := by
                have h := Tok.scan_tail s.data.toList n c.data.toList Hnl.out (by rw [HU.out]; exact hch) (by rw [HU.out]; exact Tok.NL_of l (by omega) (by
                  have : l[l.length - 2]'(by omega) = (5, t1, a1) := by rw [← Hx.out]; congr 1; have := Hm.out; omega
                  rw [this])) (by rw [HU.out]; exact hlen4) (by rw [← hXe, hXl]; omega)
                rw [HU.out, ← hXe] at h
                exact h
              have H2 := kept (fun w hT => scan_any ⟨X.toArray⟩ (by rw [size_mk]; omega) w hT)
              rw [show (⟨X.toArray⟩ : ByteArray).data.toList = X from rfl, hscX] at H2
              have hl2l : (l.dropLast ++ [(6, [], X.length)]).length = l.length := by simp; omega
              have hlastX : ∀ h : m + 1 < (l.dropLast ++ [(6, ([] : List UInt8), X.length)]).length, (l.dropLast ++ [(6, ([] : List UInt8), X.length)])[m + 1] = (6, [], X.length) := by
                intro _
                have := Hm.out
                rw [List.getElem_append_right (by simp; omega)]
                simp
              obtain ⟨l2, hl2d⟩ : ∃ l2, l.dropLast ++ [(6, ([] : List UInt8), X.length)] = l2 := ⟨_, rfl⟩
              have hinit : l2.dropLast = l.dropLast := by rw [← hl2d]; simp
              rw [hl2d] at H2 hl2l hlastX
              have Hlast := kept hlastX; have Hinit := kept hinit; have Hl2l := kept hl2l
              clear hl2d hscX hch hst hXe hT1 hT2 hX hRl hlastX hinit hl2l hn
              go_enter Tryd.func8, Tryd.ntmps8
              go_wp2_with fail
              (with_reducible refine (Hc.out _).mono ?_); rintro e w1 ⟨rfl, rfl⟩
              go_wp2_with fail
              (with_reducible refine (H1.out _ HT.out).mono ?_); rintro e w1 ⟨v, rfl, ho, b1⟩
              have Ho := kept (show OwnsT w1 w.heap.size v l from ho); have B1 := kept b1; clear ho b1
              have BW := ball w1 (.cells #[.int .i64 0, .int .i64 p, .string ⟨#[]⟩] 26)
              have R2 := kept (Ho.out.reads.below BW)
              obtain ⟨a, cap, rfl, hcap, hcells⟩ := R2.out
              rw [Tok.toI_length] at Ho R2 hcap ⊢
              obtain ⟨g, off, rfl, x0, x1, x2⟩ := hcells m (by rw [Tok.toI_length]; exact hml)
              have hxi : ((Tok.toI l)[m]'(by rw [Tok.toI_length]; exact hml)).1 = 5 := by simp [Tok.toI, Hx.out]
              rw [hxi] at x0
              have B2 := kept (bthen B1.out BW)
              clear BW hcells x1 x2 hxi
              go_wp2_with fail
              (with_reducible refine (Hr.out _).mono ?_); rintro e w3 ⟨rfl, b3⟩
              have B3 := kept (bthen B2.out b3)
              have R3 := kept (R2.out.below b3)
              clear b3 x0
              go_wp2_with fail
              (with_reducible refine (H2.out _ (Utf8Tabs_below HT.out B3.out)).mono ?_); rintro e w4 ⟨v2, rfl, ho2, b4⟩
              have Ho2 := kept (show OwnsT w4 w3.heap.size v2 l2 from ho2)
              have B4 := kept (bthen B3.out b4)
              have R4 := kept (R3.out.below b4)
              clear b4 ho2
              have BX := ball w4 (.cells #[.int .i64 0, .int .i64 0, .string ⟨#[]⟩] 26)
              have R5 := kept (R4.out.below BX)
              have Q5 := kept (Ho2.out.reads.below BX)
              have B5 := kept (bthen B4.out BX)
              obtain ⟨a2, cap2, rfl, hcap2, hcells⟩ := Q5.out
              rw [Tok.toI_length] at Ho2 Q5 hcap2 ⊢
              have hli : l.length - 1 < (Tok.toI l2).length := by rw [Tok.toI_length]; have := Hl2l.out; omega
              obtain ⟨g2, off2, rfl, x0, x1, x2⟩ := hcells (l.length - 1) hli
              have hlx : (Tok.toI l2)[l.length - 1] = (6, [], (X.length : Int)) := by
                have h1 : l.length - 1 = m + 1 := by have := Hm.out; omega
                have h2 := Hlast.out (by have := Hl2l.out; have := Hm.out; omega)
                simp only [Tok.toI, List.getElem_map, h1, h2]
              rw [hlx] at x0 x1 x2
              simp only at x0 x1 x2
              have hne2 : ((l2.length : Int) != (l.length : Int)) = false := by have := Hl2l.out; simp; omega
              have hl2i : (l2.length : Int) = l.length := by have := Hl2l.out; omega
              have hnq := tok_neq 6 X.length 6 X.length [] []
              rw [show decide (((6 : Int), ([] : List UInt8), (X.length : Int)) = (6, [], (X.length : Int))) = true by simp] at hnq
              clear BX hcells hlx hli
              go_wp2_with fail
              have hdl1 : (Tok.toI l).take (l.length - 1) = Tok.toI l.dropLast := by rw [Tok.toI_take, List.dropLast_eq_take]
              have hdl2 : (Tok.toI l2).take (l.length - 1) = Tok.toI l.dropLast := by rw [Tok.toI_take, ← Hinit.out, List.dropLast_eq_take, Hl2l.out]
              have HR6 := kept (R5.out)
              have R6 := ReadsT.prefix' (n := l.length - 1) (show ReadsT _ (.slice (some ⟨g, off, none⟩) (Tok.toI l).length cap) (Tok.toI l) by rw [Tok.toI_length]; exact R5.out) (by rw [Tok.toI_length]; omega)
              have Q6 := ReadsT.prefix' (n := l.length - 1) (show ReadsT _ (.slice (some ⟨g2, off2, none⟩) (Tok.toI l2).length cap2) (Tok.toI l2) by rw [Tok.toI_length]; exact Q5.out) (by rw [Tok.toI_length, Hl2l.out]; omega)
              rw [hdl1] at R6
              rw [hdl2] at Q6
              have hdll : (Tok.toI l.dropLast).length ≤ 1000000 := by rw [Tok.toI_length]; simp; omega
              have Heq := kept (equal_any _ _ _ _ _ (R6.below (bdrew _)) (Q6.below (bdrew _)) hdll hdll)
              rw [show decide (Tok.toI l.dropLast = Tok.toI l.dropLast) = true by simp] at Heq
              have B6 := kept (bthen B5.out (bdrew _))
              have Htb := kept (fun w7 b7 => Utf8Tabs_below HT.out (bthen (b := w7) B6.out b7))
              clear hdl1 hdl2 hdll R6 Q6 x0 x1 x2
              have hwr : IntKind.i64.wrap ((l.length : Int) - 1) = ((l.length - 1 : Nat) : Int) := by rw [IntWalk.i64_in _ (by omega)]; omega
              have hcp1 : l.length - 1 ≤ cap := by omega
              have hcp2 : l.length - 1 ≤ cap2 := by omega
              have hcp3 : ((l.length - 1 : Nat) : Int) ≤ cap := by omega
              have hcp4 : ((l.length - 1 : Nat) : Int) ≤ cap2 := by omega
              go_region_with (first | (go_at_call 13; refine (Heq.out).mono ?_; rintro e w7 ⟨rfl, b7⟩) | (go_at_call 10; refine (Ha.out _ (Htb.out _ b7)).mono ?_; rintro e w8 ⟨rfl, b8⟩))
              all_goals
                have B8 := kept (bthen (bthen B6.out b7) b8)
                go_wp2
                go_ret
                exact ⟨rfl, B8.out⟩
            · have hk5' : (k1 != 5) = true := by simpa using hk5
              go_enter Tryd.func8, Tryd.ntmps8
              go_wp2_with fail
              (with_reducible refine (Hc.out _).mono ?_); rintro e w1 ⟨rfl, rfl⟩
              go_wp2_with fail
              (with_reducible refine (H1.out _ HT.out).mono ?_); rintro e w1 ⟨v, rfl, ho, b1⟩
              have Ho := kept (show OwnsT w1 w.heap.size v l from ho); have B1 := kept b1; clear ho b1
              have BW := ball w1 (.cells #[.int .i64 0, .int .i64 p, .string ⟨#[]⟩] 26)
              obtain ⟨a, cap, rfl, hcap, hcells⟩ := Ho.out.reads.below BW
              rw [Tok.toI_length] at Ho hcap ⊢
              obtain ⟨g, off, rfl, x0, x1, x2⟩ := hcells m (by rw [Tok.toI_length]; exact hml)
              have hxi : ((Tok.toI l)[m]'(by rw [Tok.toI_length]; exact hml)).1 = k1 := by simp [Tok.toI, Hx.out]
              rw [hxi] at x0
              have B2 := kept (bthen B1.out BW)
              clear BW hcells x1 x2 hxi
              go_wp2_with fail
              (with_reducible refine (Ha.out _ (Utf8Tabs_below HT.out B2.out)).mono ?_); rintro e w6 ⟨rfl, b6⟩
              have B6 := kept (bthen B2.out b6)
              clear b6
              go_wp2
              go_ret
              exact ⟨rfl, B6.out⟩
        · have he1 : (e0 != 0) = true := by simpa using he
          clear he
          go_enter Tryd.func8, Tryd.ntmps8
          go_wp2_with fail
          (with_reducible refine (Hc.out _).mono ?_); rintro e w1 ⟨rfl, rfl⟩
          go_wp2_with fail
          (with_reducible refine (H1.out _ HT.out).mono ?_); rintro e w1 ⟨v, rfl, ho, b1⟩
          have B1 := kept b1; clear ho b1
          have B2 := kept (bthen B1.out (ball w1 (.cells #[.int .i64 e0, .int .i64 p, .string ⟨#[]⟩] 26)))
          go_wp2_with fail
          (with_reducible refine (Ha.out _ (Utf8Tabs_below HT.out B2.out)).mono ?_); rintro e w6 ⟨rfl, b6⟩
          have B6 := kept (bthen B2.out b6)
          clear b6
          go_wp2
          go_ret
          exact ⟨rfl, B6.out⟩
end Go.Proofs.YtbpaeglmanjbfaaDoor
