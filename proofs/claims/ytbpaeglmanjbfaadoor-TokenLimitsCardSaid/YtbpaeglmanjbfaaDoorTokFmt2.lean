/- The walks of token's Format and length. -/
import Derived.Test.YtbpaeglmanjbfaaDoorTokBld
import Derived.StillTailTactics
import Derived.Deep.RegionWith
import Derived.IntWalk
namespace Go.Proofs.YtbpaeglmanjbfaaDoor
open Go.RowKit
set_option linter.unusedSimpArgs false
set_option linter.unusedVariables false
namespace Tok
/-- The source of a token. -/
def sourceL (t : TI) : List UInt8 := if t.1 = 3 then 34 :: (t.2.1 ++ [34]) else t.2.1
def apartT (a b : TI) : Bool := apartB a.1 a.2.1 b.1 b.2.1
/-- Is a blank laid ahead of token k? -/
def gapB (l : List TI) (k : Nat) : Bool :=
  if 0 < k then (match l[k - 1]?, l[k]? with | some a, some b => apartT a b | _, _ => false) else false
def fmtN (l : List TI) : Nat → List UInt8
  | 0 => []
  | k + 1 => (if gapB l k then fmtN l k ++ [32] else fmtN l k) ++ (match l[k]? with | some t => sourceL t | none => [])
def fmt (l : List TI) : List UInt8 := fmtN l l.length
theorem fmtN_succ (l : List TI) (k : Nat) (h : k < l.length) : fmtN l (k + 1) = (if gapB l k then fmtN l k ++ [32] else fmtN l k) ++ sourceL l[k] := by
  rw [fmtN, List.getElem?_eq_getElem h]
theorem gapB_zero (l : List TI) : gapB l 0 = false := rfl
theorem gapB_succ (l : List TI) (k : Nat) (h : k + 1 < l.length) : gapB l (k + 1) = apartT l[k] l[k + 1] := by
  unfold gapB
  rw [if_pos (by omega), List.getElem?_eq_getElem h, Nat.add_sub_cancel, List.getElem?_eq_getElem (by omega : k < l.length)]
/-- Few tokens with short texts. -/
structure Small (l : List TI) : Prop where
  len : l.length ≤ 10000
  text : ∀ i (h : i < l.length), l[i].2.1.length ≤ 10000
theorem fmtN_le (l : List TI) (h : Small l) : ∀ k, k ≤ l.length → (fmtN l k).length ≤ k * 10003
  | 0, _ => by simp [fmtN]
  | k + 1, hk => by
    have ih := fmtN_le l h k (by omega)
    have ht := h.text k (by omega)
    rw [fmtN_succ l k (by omega), List.length_append]
    have h1 : (sourceL l[k]).length ≤ 10002 := by
      unfold sourceL
      split
      · simp; omega
      · omega
    have h2 : (if gapB l k then fmtN l k ++ [32] else fmtN l k).length ≤ (fmtN l k).length + 1 := by
      split
      · simp
      · omega
    omega
end Tok
set_option maxRecDepth 100000 in
set_option maxHeartbeats 4000000 in
theorem format_any (l : List Tok.TI) (v : Value) (w : World) (hv : ReadsT w v l) (hsm : Tok.Small l) :
    Calls Tryd.prog 17 #[v] w fun e w' => e = .returned (.string ⟨(Tok.fmt l).toArray⟩) ∧ Below w.heap.size w w' := by
  obtain ⟨a, cap, rfl, _, hc⟩ := hv
  have HC := kept hc
  have HF := kept (Tok.fmtN_le l hsm)
  have Hsm := kept hsm
  have hlen := hsm.len
  clear hc hsm
  go_enter Tryd.func17, Tryd.ntmps17
  go_wp2
  go_loopw [8] (fun iv wr => ∃ k : Nat, k ≤ l.length ∧ iv = .int .i64 k ∧ Bld w (Tok.fmtN l k) wr ∧ Below w.heap.size w wr) (fun iv _ => l.length - (intOf iv).toNat)
  case atStart => exact ⟨0, by omega, rfl, Bld.fresh w, ball w _⟩
  case round =>
    obtain ⟨k, hk, rfl, hB, hbel⟩ := hrel
    have HB := kept hB; have HL := kept hbel
    have hwr := hbel.size
    have hbs := hB.size
    clear hB hbel
    by_cases hlt : k < l.length
    · have hlt' : (k : Int) < l.length := by omega
      obtain ⟨g, off, rfl, x0, x1, x2⟩ := HC.out k hlt
      have Hst := kept (Tok.fmtN_succ l k hlt)
      have hgw := cell_lt' x0
      have ht := Hsm.out.text k hlt
      have hle := HF.out k hk
      have Hgs := kept (fun j (hj : k = j + 1) => show Tok.gapB l k = Tok.apartT (l[j]'(by omega)) l[k] by subst hj; exact Tok.gapB_succ l j hlt)
      obtain ⟨⟨k1, t1, a1⟩, hx⟩ : ∃ x, l[k] = x := ⟨_, rfl⟩
      rw [hx] at x0 x1 x2 ht Hst Hgs
      simp only at x0 x1 x2 ht
      have x0 := (HL.out.cell (cell_lt' x0)).trans x0; have x1 := (HL.out.cell (cell_lt' x1)).trans x1; have x2 := (HL.out.cell (cell_lt' x2)).trans x2
      clear hx
      generalize Tok.fmtN l k = acc at *
      have hle' : acc.length ≤ 200000000 := by omega
      clear hle
      by_cases hk0 : k = 0
      · subst hk0
        simp only [Nat.zero_mul, Nat.add_zero] at x0 x1 x2
        rw [show ((0 : Nat) : Int) = 0 from rfl]
        have Hst2 := kept (Hst.out)
        rw [Tok.gapB_zero] at Hst2
        clear Hst Hgs
        go_wp2
        go_quiet (fail)
        have B5 := kept (bthen (ball wr (.cells #[.int .i64 k1, .string ⟨t1.toArray⟩, .int .i64 a1] 36)) (below_drewN (Below.refl _ _) nq))
        have T5 := kept (show Tri (World.drewN (wr.alloc (.cells #[.int .i64 k1, .string ⟨t1.toArray⟩, .int .i64 a1] 36)) nq) wr.heap.size 36 _ _ _ from Tri.fresh wr _ _ _ _)
        obtain ⟨w5, hw5⟩ : ∃ w5, w5 = World.drewN (wr.alloc (.cells #[.int .i64 k1, .string ⟨t1.toArray⟩, .int .i64 a1] 36)) nq := ⟨_, rfl⟩
        rw [← hw5] at B5 T5 ⊢
        have HB5 := kept (HB.out.below B5.out)
        have HL5 := kept (bthen2 HL.out B5.out hwr)
        have hs5 := B5.out.size
        clear hw5 x0 x1 x2
        obtain ⟨z0, z1, z2, _, _, _⟩ := T5.out.facts
        by_cases hk3 : k1 = 3
        · have Hst3 := kept (show Tok.fmtN l (0 + 1) = acc ++ (34 :: (t1 ++ [34])) by rw [Hst2.out, hk3]; rfl)
          subst hk3
          have hs1 : (Op.stringOp .add ⟨#[34]⟩ ⟨t1.toArray⟩).run Tryd.prog w5 = .ok (.string ⟨(34 :: t1).toArray⟩) w5 := run_cat w5 (l := [34]) (m := t1) rfl rfl (by simp; omega)
          have hs2 : (Op.stringOp .add ⟨(34 :: t1).toArray⟩ ⟨#[34]⟩).run Tryd.prog w5 = .ok (.string ⟨(34 :: (t1 ++ [34])).toArray⟩) w5 := run_cat w5 (l := 34 :: t1) (m := [34]) rfl rfl (by simp; omega)
          have Hws := kept (HB5.out.str (by first | omega | (simp; omega)) ⟨(34 :: (t1 ++ [34])).toArray⟩ (by rw [size_mk]; simp; omega))
          go_wp2_with fail
          (with_reducible refine (Hws.out).mono ?_); rintro e w7 ⟨rfl, hB7, b7, _⟩
          have HB7 := kept (show Bld w (Tok.fmtN l (0 + 1)) w7 by rw [Hst3.out]; exact hB7)
          have HL7 := kept (HL5.out.trans b7)
          clear hB7 b7
          go_wp2
          exact ⟨⟨0 + 1, by omega, by go_num, HB7.out, HL7.out⟩, by simp [intOf]; omega⟩
        · have hk3' : (k1 == 3) = false := by simpa using hk3
          have Hst3 := kept (show Tok.fmtN l (0 + 1) = acc ++ t1 by rw [Hst2.out]; unfold Tok.sourceL; rw [if_neg hk3]; rfl)
          have Hws := kept (HB5.out.str (by first | omega | (simp; omega)) ⟨t1.toArray⟩ (by rw [size_mk]; omega))
          go_wp2_with fail
          (with_reducible refine (Hws.out).mono ?_); rintro e w7 ⟨rfl, hB7, b7, _⟩
          have HB7 := kept (show Bld w (Tok.fmtN l (0 + 1)) w7 by rw [Hst3.out]; exact hB7)
          have HL7 := kept (HL5.out.trans b7)
          clear hB7 b7
          go_wp2
          exact ⟨⟨0 + 1, by omega, by go_num, HB7.out, HL7.out⟩, by simp [intOf]; omega⟩
      · obtain ⟨j, rfl⟩ : ∃ j, k = j + 1 := ⟨k - 1, by omega⟩
        have hj : j < l.length := by omega
        have hc2 := HC.out j hj
        have Hg2 := kept (Hgs.out j rfl)
        obtain ⟨⟨k0, t0, a0⟩, hy⟩ : ∃ x, l[j] = x := ⟨_, rfl⟩
        rw [hy] at hc2 Hg2
        obtain ⟨g', off', hgg, y0, y1, y2⟩ := hc2
        injection hgg with hgg; injection hgg with h1 h2; subst h1; subst h2
        have ht0 : t0.length ≤ 10000 := by have := Hsm.out.text j hj; rw [hy] at this; exact this
        have y0 := (HL.out.cell (cell_lt' y0)).trans y0; have y1 := (HL.out.cell (cell_lt' y1)).trans y1; have y2 := (HL.out.cell (cell_lt' y2)).trans y2
        simp only at y0 y1 y2
        clear hy Hgs hk0
        go_wp2
        have Hap := kept (fun w => apart_any k0 a0 k1 a1 t0 t1 w (by omega))
        have hw1 : IntKind.i64.wrap ((j : Int) + 1 - 1) = (j : Int) := by rw [IntWalk.i64_in _ (by omega)]; omega
        have hw2 : IntKind.i64.wrap (j : Int) = (j : Int) := IntWalk.i64_in _ (by omega)
        have hjl : (j : Int) < l.length := by omega
        have hgwr : g < wr.heap.size := by have := cell_lt' y0; exact this
        go_region_with (go_at_call 37; refine (Hap.out _).mono ?_; rintro e w5 ⟨rfl, b5⟩)
        all_goals
          have B5 := kept (bthen (ball wr (.cells #[.int .i64 k1, .string ⟨t1.toArray⟩, .int .i64 a1] 36)) ((bthen (bdrew _) b5)))
          have T5 := kept (Tri.below (show Tri (wr.alloc (.cells #[.int .i64 k1, .string ⟨t1.toArray⟩, .int .i64 a1] 36)).drew wr.heap.size 36 _ _ _ from Tri.fresh wr _ _ _ _) b5)
          have HB5 := kept (HB.out.below B5.out)
          have HL5 := kept (bthen2 HL.out B5.out hwr)
          have hs5 := B5.out.size
          clear b5 y0 y1 y2 x0 x1 x2 hgwr
          obtain ⟨z0, z1, z2, _, _, _⟩ := T5.out.facts
          have Hst2 := kept (Hst.out)
          rw [Hg2.out] at Hst2
          rw [show Tok.apartT (k0, t0, a0) (k1, t1, a1) = Tok.apartB k0 t0 k1 t1 from rfl] at Hst2
          generalize Tok.apartB k0 t0 k1 t1 = r at *
          cases r with
          | true =>
            have HW := HB5.out.byte (by omega) 32
            rw [show (((32 : UInt8).toNat : Nat) : Int) = 32 from rfl] at HW
            have HW := kept HW
            go_wp2_with fail
            (with_reducible refine (HW.out).mono ?_); rintro e w6 ⟨rfl, hB6, b6, o6⟩
            have HB6 := kept hB6
            have T6 := kept (Tri.others T5.out o6 (by simp; omega) (by decide))
            have HL6 := kept (HL5.out.trans b6)
            have hs6 := b6.size
            clear hB6 b6 o6 z0 z1 z2
            obtain ⟨z0, z1, z2, _, _, _⟩ := T6.out.facts
            by_cases hk3 : k1 = 3
            · have Hst3 := kept (show Tok.fmtN l (j + 1 + 1) = (acc ++ [32]) ++ (34 :: (t1 ++ [34])) by rw [Hst2.out, hk3]; rfl)
              subst hk3
              have hs1 : (Op.stringOp .add ⟨#[34]⟩ ⟨t1.toArray⟩).run Tryd.prog w6 = .ok (.string ⟨(34 :: t1).toArray⟩) w6 := run_cat w6 (l := [34]) (m := t1) rfl rfl (by simp; omega)
              have hs2 : (Op.stringOp .add ⟨(34 :: t1).toArray⟩ ⟨#[34]⟩).run Tryd.prog w6 = .ok (.string ⟨(34 :: (t1 ++ [34])).toArray⟩) w6 := run_cat w6 (l := 34 :: t1) (m := [34]) rfl rfl (by simp; omega)
              have Hws := kept (HB6.out.str (by first | omega | (simp; omega)) ⟨(34 :: (t1 ++ [34])).toArray⟩ (by rw [size_mk]; simp; omega))
              go_wp2_with fail
              (with_reducible refine (Hws.out).mono ?_); rintro e w7 ⟨rfl, hB7, b7, _⟩
              have HB7 := kept (show Bld w (Tok.fmtN l (j + 1 + 1)) w7 by rw [Hst3.out]; exact hB7)
              have HL7 := kept (HL6.out.trans b7)
              clear hB7 b7
              go_wp2
              exact ⟨⟨j + 1 + 1, by omega, by go_num, HB7.out, HL7.out⟩, by simp [intOf]; omega⟩
            · have hk3' : (k1 == 3) = false := by simpa using hk3
              have Hst3 := kept (show Tok.fmtN l (j + 1 + 1) = (acc ++ [32]) ++ t1 by rw [Hst2.out]; unfold Tok.sourceL; rw [if_neg hk3]; rfl)
              have Hws := kept (HB6.out.str (by first | omega | (simp; omega)) ⟨t1.toArray⟩ (by rw [size_mk]; omega))
              go_wp2_with fail
              (with_reducible refine (Hws.out).mono ?_); rintro e w7 ⟨rfl, hB7, b7, _⟩
              have HB7 := kept (show Bld w (Tok.fmtN l (j + 1 + 1)) w7 by rw [Hst3.out]; exact hB7)
              have HL7 := kept (HL6.out.trans b7)
              clear hB7 b7
              go_wp2
              exact ⟨⟨j + 1 + 1, by omega, by go_num, HB7.out, HL7.out⟩, by simp [intOf]; omega⟩
          | false =>
            by_cases hk3 : k1 = 3
            · have Hst3 := kept (show Tok.fmtN l (j + 1 + 1) = acc ++ (34 :: (t1 ++ [34])) by rw [Hst2.out, hk3]; rfl)
              subst hk3
              have hs1 : (Op.stringOp .add ⟨#[34]⟩ ⟨t1.toArray⟩).run Tryd.prog w5 = .ok (.string ⟨(34 :: t1).toArray⟩) w5 := run_cat w5 (l := [34]) (m := t1) rfl rfl (by simp; omega)
              have hs2 : (Op.stringOp .add ⟨(34 :: t1).toArray⟩ ⟨#[34]⟩).run Tryd.prog w5 = .ok (.string ⟨(34 :: (t1 ++ [34])).toArray⟩) w5 := run_cat w5 (l := 34 :: t1) (m := [34]) rfl rfl (by simp; omega)
              have Hws := kept (HB5.out.str (by first | omega | (simp; omega)) ⟨(34 :: (t1 ++ [34])).toArray⟩ (by rw [size_mk]; simp; omega))
              go_wp2_with fail
              (with_reducible refine (Hws.out).mono ?_); rintro e w7 ⟨rfl, hB7, b7, _⟩
              have HB7 := kept (show Bld w (Tok.fmtN l (j + 1 + 1)) w7 by rw [Hst3.out]; exact hB7)
              have HL7 := kept (HL5.out.trans b7)
              clear hB7 b7
              go_wp2
              exact ⟨⟨j + 1 + 1, by omega, by go_num, HB7.out, HL7.out⟩, by simp [intOf]; omega⟩
            · have hk3' : (k1 == 3) = false := by simpa using hk3
              have Hst3 := kept (show Tok.fmtN l (j + 1 + 1) = acc ++ t1 by rw [Hst2.out]; unfold Tok.sourceL; rw [if_neg hk3]; rfl)
              have Hws := kept (HB5.out.str (by first | omega | (simp; omega)) ⟨t1.toArray⟩ (by rw [size_mk]; omega))
              go_wp2_with fail
              (with_reducible refine (Hws.out).mono ?_); rintro e w7 ⟨rfl, hB7, b7, _⟩
              have HB7 := kept (show Bld w (Tok.fmtN l (j + 1 + 1)) w7 by rw [Hst3.out]; exact hB7)
              have HL7 := kept (HL5.out.trans b7)
              clear hB7 b7
              go_wp2
              exact ⟨⟨j + 1 + 1, by omega, by go_num, HB7.out, HL7.out⟩, by simp [intOf]; omega⟩
    · obtain rfl : k = l.length := by omega
      have hlt' : ¬ (l.length : Int) < l.length := by omega
      have Hs := kept (HB.out.string)
      go_wp2_with fail
      (with_reducible refine (Hs.out).mono ?_); rintro e w7 ⟨rfl, b7⟩
      have HL7 := kept (HL.out.trans b7)
      clear b7
      go_wp2
      go_ret
      exact ⟨rfl, HL7.out⟩
end Go.Proofs.YtbpaeglmanjbfaaDoor
