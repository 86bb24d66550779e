/- The walk of token.classes. -/
import Derived.Test.YtbpaeglmanjbfaaDoorTokRef7
import Derived.Laws.RangeString
import Derived.Laws.Tables
import Derived.Laws.RangeAny
import Derived.Deep.Cut
namespace Go.Proofs.YtbpaeglmanjbfaaDoor
open Go.RowKit
set_option linter.unusedSimpArgs false
set_option linter.unusedVariables false
namespace Tok
def tabC (f : Nat → Nat) : Array Value := ((List.range 256).map fun i => Value.int .u8 (f i : Int)).toArray
theorem tabC_size (f : Nat → Nat) : (tabC f).size = 256 := by simp [tabC]
theorem tabC_get (f : Nat → Nat) (i : Nat) (h : i < 256) : (tabC f)[i]? = some (.int .u8 (f i : Int)) := by simp [tabC, h]
theorem tabC_set (f : Nat → Nat) (i v : Nat) : (tabC f).setIfInBounds i (.int .u8 (v : Int)) = tabC (fun j => if j = i then v else f j) := by
  apply Array.ext_getElem?
  intro j
  by_cases hj : j < 256
  · rw [Array.getElem?_setIfInBounds, tabC_get _ j hj, tabC_size]
    by_cases h : i = j
    · subst h; rw [if_pos rfl, if_pos hj, tabC_get _ i hj, if_pos rfl]
    · rw [if_neg h, tabC_get _ j hj, if_neg (fun hh => h hh.symm)]
  · rw [Array.getElem?_eq_none (by simp [tabC_size]; omega), Array.getElem?_eq_none (by simp [tabC_size]; omega)]
theorem tabC_ext (f g : Nat → Nat) (h : ∀ i, i < 256 → f i = g i) : tabC f = tabC g := by
  unfold tabC
  congr 1
  apply List.map_congr_left
  intro i hi
  rw [h i (by simpa using hi)]
/-- The class of a byte. -/
def clsN (i : Nat) : Nat := if (97 ≤ i ∧ i ≤ 122) ∨ (65 ≤ i ∧ i ≤ 90) ∨ i = 95 then 2 else if 48 ≤ i ∧ i ≤ 57 then 3 else if i = 34 then 5 else if i = 10 then 6 else if i = 35 then 7 else if i = 32 ∨ i = 9 ∨ i = 13 then 1
  else if [123, 125, 91, 93, 40, 41, 44, 61, 60, 62, 43, 45, 42, 47, 37, 33, 38, 124, 63, 58, 46].contains i then 4 else 0
end Tok
theorem zero43 : Tryd.zeroCells43 = Tok.tabC (fun _ => 0) := by kernel_rfl
theorem World.heap_alloc_old' (w : World) (o : Obj) (i : Nat) (h : i < w.heap.size) : (w.alloc o).heap[i]? = w.heap[i]? := by
  show (w.heap.push o)[i]? = w.heap[i]?
  rw [Array.getElem?_push, if_neg (Nat.ne_of_lt h)]
theorem info43 : (Tryd.prog.info? 43).map (·.size) = some 256 := by kernel_rfl
theorem tabC_one (f : Nat → Nat) : (Tok.tabC f).all (·.oneCell') = true := by
  rw [Array.all_eq_true_iff_forall_mem]
  intro v hv
  unfold Tok.tabC at hv
  simp at hv
  obtain ⟨i, _, rfl⟩ := hv
  rfl
theorem below_setRow {B : Nat} {a w : World} (h : Below B a w) {g : Nat} (hg : B ≤ g) (cs : Array Value) : Below B a (w.setRow g cs) :=
  h.trans ⟨rfl, rfl, rfl, by simp, fun k hk => setRow_other w g k cs (by omega)⟩
def TabAt (w : World) (g : Nat) (f : Nat → Nat) : Prop := w.heap[g]? = some (.cells (Tok.tabC f) 43 (0, 0))
namespace TabAt
variable {w : World} {g : Nat} {f : Nat → Nat}
theorem cell (h : TabAt w g f) (i : Nat) (hi : i < 256) : w.cell? ⟨g, i, none⟩ = some (.int .u8 (f i : Int)) := by rw [cell_of_row _ _ _ _ _ _ h, Tok.tabC_get f i hi]
theorem free (h : TabAt w g f) (i : Nat) : w.frozen? ⟨g, i, none⟩ = false := frozen_of_row _ _ _ _ _ h
theorem set (h : TabAt w g f) (i v : Nat) : TabAt (w.setCell ⟨g, i, none⟩ (.int .u8 (v : Int))) g (fun j => if j = i then v else f j) := by
  have := heap_setCell_same w g i _ _ (.int .u8 (v : Int)) h
  rwa [Tok.tabC_set] at this
theorem set_other (h : TabAt w g f) (g' i : Nat) (v : Value) (hne : g ≠ g') : TabAt (w.setCell ⟨g', i, none⟩ v) g f := (heap_setCell_other w ⟨g', i, none⟩ g v hne).trans h
theorem iter (h : TabAt w g f) (s : ByteArray) (p : Nat) (hg : g < w.heap.size) : TabAt (w.iter s p) g f := (World.heap_alloc_old' w _ g hg).trans h
end TabAt

theorem iter_setCell (W : World) (s : ByteArray) (p g i : Nat) (v : Value) (h : g < W.heap.size) : (W.iter s p).setCell ⟨g, i, none⟩ v = (W.setCell ⟨g, i, none⟩ v).iter s p := by
  unfold World.iter
  simp only [World.alloc, World.setCell]
  congr 1
  apply Array.ext_getElem?
  intro j
  rw [Array.getElem?_modify, Array.getElem?_push, Array.getElem?_push, Array.getElem?_modify, Array.size_modify]
  by_cases h1 : j = W.heap.size
  · subst h1; rw [if_pos rfl, if_neg (by omega), if_pos rfl]
  · rw [if_neg h1, if_neg h1]
/-- The signs' bytes, as the program lists them. -/
def Tok.listed : ByteArray := ⟨#[123, 125, 91, 93, 40, 41, 44, 61, 60, 62, 43, 45, 42, 47, 37, 33, 38, 124, 63, 58, 46]⟩
set_option maxRecDepth 100000 in
theorem listed_ok : ∀ p : Fin 21, ∃ h : p.val < Tok.listed.size, (Tok.listed[p.val]'h).toNat < 128 ∧ ∀ q : Fin 256, (((Tok.listed.data.toList.take (p.val + 1)).contains (UInt8.ofNat q.val)) = (decide (q.val = (Tok.listed[p.val]'h).toNat) || (Tok.listed.data.toList.take p.val).contains (UInt8.ofNat q.val))) := by decide
set_option maxRecDepth 100000 in
theorem cls_fin : ∀ q : Fin 256, (if q.val = 13 then 1 else if q.val = 9 then 1 else if q.val = 32 then 1 else if q.val = 10 then 6 else if q.val = 35 then 7 else if q.val = 34 then 5 else if q.val = 95 then 2 else
    if (Tok.listed.data.toList.take 21).contains (UInt8.ofNat q.val) then 4 else if 48 ≤ q.val ∧ q.val < 58 then 3 else if (97 ≤ q.val ∧ q.val < 123) ∨ (65 ≤ q.val ∧ q.val + 32 < 123) then 2 else 0) = Tok.clsN q.val := by decide
set_option maxHeartbeats 1000000 in
theorem classes_any (w : World) :
    Calls Tryd.prog 46 #[] w fun e w' => e = .returned (.agg (Tok.tabC Tok.clsN)) ∧ Below w.heap.size w w' := by
  have h1 := kept (show TabAt ((w.alloc (.cells Tryd.zeroCells43 43)).alloc (.cells Tryd.zeroCells43 43)) (w.heap.size + 1) (fun _ => 0) by
    unfold TabAt; rw [heap_alloc2_new, zero43])
  have h0 := kept (show TabAt ((w.alloc (.cells Tryd.zeroCells43 43)).alloc (.cells Tryd.zeroCells43 43)) w.heap.size (fun _ => 0) by
    unfold TabAt; rw [heap_alloc2_old, zero43])
  have hb := kept (show Below w.heap.size w ((w.alloc (.cells Tryd.zeroCells43 43)).alloc (.cells Tryd.zeroCells43 43)) from (ball w _).alloc (by simp) _)
  go_enter Tryd.func46, Tryd.ntmps46
  go_wp2
  go_loopw [2] (fun cv wr => ∃ (c : Nat) (f : Nat → Nat), 97 ≤ c ∧ c ≤ 123 ∧ cv = .int .i32 c ∧ TabAt wr (w.heap.size + 1) f ∧ (∀ i, f i = if (97 ≤ i ∧ i < c) ∨ (65 ≤ i ∧ i + 32 < c) then 2 else 0) ∧ TabAt wr w.heap.size (fun _ => 0) ∧ Below w.heap.size w wr ∧ wr.heap.size = w.heap.size + 2) (fun cv _ => 123 - (intOf cv).toNat)
  case atStart => exact ⟨97, _, by omega, by omega, rfl, h1.out, fun i => by rw [if_neg (by omega)], h0.out, hb.out, by simp⟩
  case round =>
    obtain ⟨c, f, hc1, hc2, rfl, ht, hf, ht0, hbel, hsz⟩ := hrel
    have Ht := kept ht; have Hf := kept hf; have Ht0 := kept ht0; have Hl := kept hbel; have Hsz := kept hsz
    clear ht hf ht0 hbel hsz
    by_cases hlt : c ≤ 122
    · have hlt' : (c : Int) ≤ 122 := by omega
      have c0 := Ht.out.cell c (by omega)
      have f0 := Ht.out.free c
      have c1 := Ht.out.cell (c - 97 + 65) (by omega)
      have f1 := Ht.out.free (c - 97 + 65)
      have hne : c ≠ c - 97 + 65 := by omega
      go_wp2
      refine ⟨⟨c + 1, _, by omega, by omega, by go_num, (Ht.out.set c 2).set (c - 97 + 65) 2, fun i => ?_, (Ht0.out.set_other _ _ _ (by omega)).set_other _ _ _ (by omega), (Hl.out.setCell (by simp) _).setCell (by simp) _, by rw [← Hsz.out]; simp [World.setCell]⟩, by simp [intOf]; omega⟩
      rw [Hf.out]
      repeat' split
      all_goals omega
    · obtain rfl : c = 123 := by omega
      clear hc1 hc2 hlt
      obtain ⟨wo, rfl⟩ : ∃ wo : World, wo = wr := ⟨_, rfl⟩
      go_wp2
      go_loopw [3] (fun cv wr => ∃ (c : Nat) (f : Nat → Nat), 48 ≤ c ∧ c ≤ 58 ∧ cv = .int .i32 c ∧ TabAt wr (w.heap.size + 1) f ∧ (∀ i, f i = if 48 ≤ i ∧ i < c then 3 else if (97 ≤ i ∧ i < 123) ∨ (65 ≤ i ∧ i + 32 < 123) then 2 else 0) ∧ TabAt wr w.heap.size (fun _ => 0) ∧ Below w.heap.size w wr ∧ wr.heap.size = w.heap.size + 2) (fun cv _ => 58 - (intOf cv).toNat)
      case atStart => exact ⟨48, f, by omega, by omega, rfl, Ht.out, fun i => by rw [if_neg (by omega), Hf.out], Ht0.out, Hl.out, Hsz.out⟩
      case round =>
        clear Ht Hf Ht0 Hl Hsz
        obtain ⟨c, f, hc1, hc2, rfl, ht, hf, ht0, hbel, hsz⟩ := hrel
        have Ht := kept ht; have Hf := kept hf; have Ht0 := kept ht0; have Hl := kept hbel; have Hsz := kept hsz
        clear ht hf ht0 hbel hsz
        by_cases hlt : c ≤ 57
        · have hlt' : (c : Int) ≤ 57 := by omega
          have c0 := Ht.out.cell c (by omega)
          have f0 := Ht.out.free c
          go_wp2
          refine ⟨⟨c + 1, _, by omega, by omega, by go_num, Ht.out.set c 3, fun i => ?_, Ht0.out.set_other _ _ _ (by omega), Hl.out.setCell (by simp) _, by rw [← Hsz.out]; simp [World.setCell]⟩, by simp [intOf]; omega⟩
          rw [Hf.out]
          repeat' split
          all_goals omega
        · obtain rfl : c = 58 := by omega
          clear hc1 hc2 hlt
          obtain ⟨wo, rfl⟩ : ∃ wo : World, wo = wr := ⟨_, rfl⟩
          go_wp2
          go_loopw [5] (fun _ wr => ∃ (W : World) (pos : Nat) (f : Nat → Nat), wr = W.iter Tok.listed pos ∧ pos ≤ 21 ∧ TabAt W (w.heap.size + 1) f ∧ (∀ i, i < 256 → f i = if (Tok.listed.data.toList.take pos).contains (UInt8.ofNat i) then 4 else if 48 ≤ i ∧ i < 58 then 3 else if (97 ≤ i ∧ i < 123) ∨ (65 ≤ i ∧ i + 32 < 123) then 2 else 0) ∧ TabAt W w.heap.size (fun _ => 0) ∧ Below w.heap.size w W ∧ W.heap.size = w.heap.size + 2) (fun _ wr => 21 - wr.iterPos (w.heap.size + 2))
          case atStart => exact ⟨wo, 0, f, rfl, by omega, Ht.out, fun i _ => by rw [Hf.out]; simp, Ht0.out, Hl.out, Hsz.out⟩
          case round =>
            clear Ht Hf Ht0 Hl
            obtain ⟨W, pos, f, rfl, hpos, ht, hf, ht0, hbel, hsz⟩ := hrel
            have Ht := kept ht; have Hf := kept hf; have Ht0 := kept ht0; have Hl := kept hbel; have HszW := kept hsz
            have hwo : wo.heap.size = W.heap.size := by have := Hsz.out; omega
            have hW : w.heap.size + 2 = W.heap.size := by omega
            have Hw2 := kept hW
            clear ht hf ht0 hbel hsz
            rw [hwo]
            by_cases hlt : pos < 21
            · obtain ⟨hp, hm, hq⟩ := listed_ok ⟨pos, hlt⟩
              have hnx := fun ty => run_next_ascii (P := Tryd.prog) W Tok.listed pos ty hp hm
              obtain ⟨m, hmm⟩ : ∃ m, (Tok.listed[pos]'hp).toNat = m := ⟨_, rfl⟩
              have hq2 : ∀ i, i < 256 → ((Tok.listed.data.toList.take (pos + 1)).contains (UInt8.ofNat i)) = (decide (i = m) || (Tok.listed.data.toList.take pos).contains (UInt8.ofNat i)) := by
                intro i hi; rw [← hmm]; exact hq ⟨i, hi⟩
              rw [hmm] at hnx hm
              have Hq := kept hq2
              have hTi : TabAt (W.iter Tok.listed (pos + 1)) (w.heap.size + 1) f := TabAt.iter Ht.out _ _ (by omega)
              have c0 := hTi.cell m (by omega)
              have f0 := hTi.free m
              have hm' : (m : Int) < 256 := by omega
              have Hst := kept (fun v => iter_setCell W Tok.listed (pos + 1) (w.heap.size + 1) m v (by omega))
              clear hq hq2 hmm hTi hwo hW
              go_wp2
              refine ⟨⟨W.setCell ⟨w.heap.size + 1, m, none⟩ (.int .u8 4), pos + 1, _, Hst.out _, by omega, Ht.out.set m 4, fun i hi => ?_, Ht0.out.set_other _ _ _ (by omega), Hl.out.setCell (by simp) _, by rw [← HszW.out]; simp [World.setCell]⟩, ?_⟩
              · rw [Hq.out i hi]
                by_cases him : i = m
                · rw [if_pos him, if_pos (by simp [him])]
                · rw [if_neg him, Hf.out i hi]
                  simp [him]
              · rw [Hst.out, Hw2.out]
                have e1 : (W.setCell ⟨w.heap.size + 1, m, none⟩ (.int .u8 4)).heap.size = W.heap.size := by simp [World.setCell]
                have e2 := World.iterPos_iter (W.setCell ⟨w.heap.size + 1, m, none⟩ (.int .u8 4)) Tok.listed (pos + 1)
                rw [e1] at e2
                rw [e2, World.iterPos_iter]
                omega
            · obtain rfl : pos = 21 := by omega
              have hnx := fun ty => run_next_end (P := Tryd.prog) W Tok.listed 21 ty (by decide)
              have hT : TabAt (W.iter Tok.listed 21) (w.heap.size + 1) f := TabAt.iter Ht.out _ _ (by omega)
              have c0 := hT.cell 95 (by omega)
              have f0 := hT.free 95
              have c1 := hT.cell 34 (by omega)
              have f1 := hT.free 34
              have c2 := hT.cell 35 (by omega)
              have f2 := hT.free 35
              have c3 := hT.cell 10 (by omega)
              have f3 := hT.free 10
              have c4 := hT.cell 32 (by omega)
              have f4 := hT.free 32
              have c5 := hT.cell 9 (by omega)
              have f5 := hT.free 9
              have c6 := hT.cell 13 (by omega)
              have f6 := hT.free 13
              have HT := kept hT
              have HT0 := kept (TabAt.iter Ht0.out Tok.listed 21 (by omega))
              have HB := kept (show Below w.heap.size w (W.iter Tok.listed 21) from Hl.out.alloc (by omega) _)
              clear hT hlt hwo hW
              have hT7 := (((((((HT.out.set 95 2).set 34 5).set 35 7).set 10 6).set 32 1).set 9 1).set 13 1)
              have hB7 : ∀ (x0 x1 x2 x3 x4 x5 x6 : Value), Below w.heap.size w ((((((((W.iter Tok.listed 21).setCell ⟨w.heap.size + 1, 95, none⟩ x0).setCell ⟨w.heap.size + 1, 34, none⟩ x1).setCell ⟨w.heap.size + 1, 35, none⟩ x2).setCell ⟨w.heap.size + 1, 10, none⟩ x3).setCell ⟨w.heap.size + 1, 32, none⟩ x4).setCell ⟨w.heap.size + 1, 9, none⟩ x5).setCell ⟨w.heap.size + 1, 13, none⟩ x6) := fun _ _ _ _ _ _ _ =>
                ((((((HB.out.setCell (by simp) _).setCell (by simp) _).setCell (by simp) _).setCell (by simp) _).setCell (by simp) _).setCell (by simp) _).setCell (by simp) _
              have hT07 := fun (x0 x1 x2 x3 x4 x5 x6 : Value) => ((((((HT0.out.set_other (w.heap.size + 1) 95 x0 (by omega)).set_other (w.heap.size + 1) 34 x1 (by omega)).set_other (w.heap.size + 1) 35 x2 (by omega)).set_other (w.heap.size + 1) 10 x3 (by omega)).set_other (w.heap.size + 1) 32 x4 (by omega)).set_other (w.heap.size + 1) 9 x5 (by omega)).set_other (w.heap.size + 1) 13 x6 (by omega)
              have hF : ∃ F, F = (fun j => if j = 13 then 1 else if j = 9 then 1 else if j = 32 then 1 else if j = 10 then 6 else if j = 35 then 7 else if j = 34 then 5 else if j = 95 then 2 else f j) := ⟨_, rfl⟩
              obtain ⟨F, hF⟩ := hF
              have hT7' : TabAt ((((((((W.iter Tok.listed 21).setCell ⟨w.heap.size + 1, 95, none⟩ (.int .u8 2)).setCell ⟨w.heap.size + 1, 34, none⟩ (.int .u8 5)).setCell ⟨w.heap.size + 1, 35, none⟩ (.int .u8 7)).setCell ⟨w.heap.size + 1, 10, none⟩ (.int .u8 6)).setCell ⟨w.heap.size + 1, 32, none⟩ (.int .u8 1)).setCell ⟨w.heap.size + 1, 9, none⟩ (.int .u8 1)).setCell ⟨w.heap.size + 1, 13, none⟩ (.int .u8 1)) (w.heap.size + 1) F := by rw [hF]; exact hT7
              have HT7 := kept hT7'; have HB7 := kept hB7; have HT07 := kept hT07
              have HS := kept (show (Tryd.prog.info? 43).map (·.size) = some (Tok.tabC F).size by rw [info43, Tok.tabC_size])
              have HF := kept (show Tok.tabC F = Tok.tabC Tok.clsN from Tok.tabC_ext _ _ (fun i hi => by
                have := cls_fin ⟨i, hi⟩
                rw [hF]
                show (if i = 13 then 1 else if i = 9 then 1 else if i = 32 then 1 else if i = 10 then 6 else if i = 35 then 7 else if i = 34 then 5 else if i = 95 then 2 else f i) = _
                rw [Hf.out i hi]
                exact this))
              clear hT7 hB7 hT07 hF hT7'
              go_upto_region 16 with (fail)
              refine wp_region_list ?_
              refine wpList_load_row rfl 43 (.tmp 1) rfl (w.heap.size + 1) rfl 43 (Tok.tabC F) (0, 0) _ HT7.out Tryd.underlying43 rfl HS.out ?_
              refine wpList_store_row rfl 43 (.tmp 0) (.tmp 35) rfl w.heap.size (Tok.tabC F) rfl rfl 43 _ (HT07.out _ _ _ _ _ _ _) HS.out (by rw [Tok.tabC_size, Tok.tabC_size]) (tabC_one F) ?_
              refine wpList_nil ?_
              have hR := setRow_heap _ w.heap.size _ (Tok.tabC F) _ _ (HT07.out (.int .u8 2) (.int .u8 5) (.int .u8 7) (.int .u8 6) (.int .u8 1) (.int .u8 1) (.int .u8 1))
              have hL := below_setRow (HB7.out (.int .u8 2) (.int .u8 5) (.int .u8 7) (.int .u8 6) (.int .u8 1) (.int .u8 1) (.int .u8 1)) (Nat.le_refl _) (Tok.tabC F)
              generalize World.setRow _ _ _ = X at hR hL ⊢
              have HR := kept hR; have HL := kept hL
              clear hR hL
              go_wp2
              rw [← HF.out]
              exact bodyPost_ret (v := .agg (Tok.tabC F)) (results_cell_row Tryd.results46 _ _ w.heap.size 43 _ (0, 0) _ rfl HR.out Tryd.underlying43 rfl HS.out) rfl ⟨rfl, HL.out⟩
end Go.Proofs.YtbpaeglmanjbfaaDoor
