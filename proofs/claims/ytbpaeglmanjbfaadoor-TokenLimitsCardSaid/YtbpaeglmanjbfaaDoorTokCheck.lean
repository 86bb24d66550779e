/- The walk of token's Check. -/
import Derived.Test.YtbpaeglmanjbfaaDoorTokValid
namespace Go.Proofs.YtbpaeglmanjbfaaDoor
open Go.RowKit
set_option linter.unusedSimpArgs false
set_option linter.unusedVariables false
namespace Tok
def lastB (l : List TI) : Bool := match l[l.length - 1]? with | some t => t.1 == 6 && t.2.1 == [] | none => false
/-- What Check answers to few tokens with short texts. -/
def checkZ (l : List TI) : Int :=
  if lastB l then (if (l.take (l.length - 1)).all validB then (if 65536 < (fmt l).length then 3 else 0) else 1) else 1
theorem check_nil : checkZ [] = 1 := rfl
theorem lastB_at (l : List TI) (h : 0 < l.length) : lastB l = (l[l.length - 1].1 == 6 && l[l.length - 1].2.1 == []) := by
  unfold lastB; rw [List.getElem?_eq_getElem (by omega : l.length - 1 < l.length)]
theorem check_last (l : List TI) (h : 0 < l.length) (hl : (l[l.length - 1].1 == 6 && l[l.length - 1].2.1 == []) = false) : checkZ l = 1 := by
  unfold checkZ; rw [lastB_at l h, hl]; rfl
theorem check_bad (l : List TI) (h : 0 < l.length) (i : Nat) (hi : i < l.length - 1) (hv : validB (l[i]'(by omega)) = false) : checkZ l = 1 := by
  have : (l.take (l.length - 1)).all validB = false := by
    rw [List.all_eq_false]
    refine ⟨l[i]'(by omega), ?_, by rw [hv]; simp⟩
    rw [List.mem_iff_getElem]
    exact ⟨i, by rw [List.length_take]; omega, by simp⟩
  unfold checkZ; rw [this]; simp
theorem check_good (l : List TI) (h : 0 < l.length) (hl : (l[l.length - 1].1 == 6 && l[l.length - 1].2.1 == []) = true) (hv : ∀ i (h : i < l.length - 1), validB (l[i]'(by omega)) = true) : checkZ l = if 65536 < (fmt l).length then 3 else 0 := by
  have : (l.take (l.length - 1)).all validB = true := by
    rw [List.all_eq_true]
    intro x hx
    obtain ⟨i, hi, rfl⟩ := List.mem_iff_getElem.1 hx
    rw [List.length_take] at hi
    simpa using hv i (by omega)
  unfold checkZ; rw [lastB_at l h, hl, this]; simp
end Tok
set_option maxRecDepth 100000 in
set_option maxHeartbeats 4000000 in
theorem check_any (l : List Tok.TI) (v : Value) (w : World) (hv : ReadsT w v l) (hsm : Tok.Small l) (hT : Lib.Utf8Tabs 1 2 w) :
    Calls Tryd.prog 15 #[v] w fun e w' => e = .returned (.int .i64 (Tok.checkZ l)) ∧ Below w.heap.size w w' := by
  obtain ⟨R, hR⟩ : ∃ R, Tok.checkZ l = R := ⟨_, rfl⟩
  rw [hR]
  have Hrd := kept hv
  obtain ⟨a, cap, rfl, hcap, hc⟩ := hv
  have HC := kept hc
  have Hsm := kept hsm
  have hlen := hsm.len
  have HT := kept hT
  have hl1 : ¬ (16384 : Int) < l.length := by omega
  clear hc hsm hT
  by_cases h0 : l.length = 0
  · have HR := kept (show (1 : Int) = R by rw [← hR, List.eq_nil_of_length_eq_zero h0, Tok.check_nil])
    have h0' : ((l.length : Int) == 0) = true := by rw [h0]; rfl
    clear hR h0
    go_enter Tryd.func15, Tryd.ntmps15
    go_wp2
    go_ret
    exact ⟨ret_int HR.out, Below.refl _ _⟩
  have h0' : ((l.length : Int) == 0) = false := by
    rw [beq_eq_false_iff_ne]; omega
  obtain ⟨m, hm⟩ : ∃ m, l.length = m + 1 := ⟨l.length - 1, by omega⟩
  have hmlt : m < l.length := by omega
  obtain ⟨g, off, rfl, x0, x1, x2⟩ := HC.out m hmlt
  obtain ⟨⟨k1, t1, a1⟩, hx⟩ : ∃ x, l[m] = x := ⟨_, rfl⟩
  have hla : (l[l.length - 1]'(by omega)) = (k1, t1, a1) := by rw [← hx]; congr 1; omega
  have HlE : Kept ((k1 == 6 && t1 == []) = false → Tok.checkZ l = 1) := kept (fun h => Tok.check_last l (by omega) (by rw [hla]; exact h))
  have HbE : Kept (∀ i, i < m → ∀ hil : i < l.length, Tok.validB l[i] = false → Tok.checkZ l = 1) := kept (fun i hi hil hv => Tok.check_bad l (by omega) i (by omega) hv)
  have HgE : Kept ((k1 == 6 && t1 == []) = true → (∀ i, i < m → ∀ hil : i < l.length, Tok.validB l[i] = true) → Tok.checkZ l = if 65536 < (Tok.fmt l).length then 3 else 0) := kept (fun h hv => Tok.check_good l (by omega) (by rw [hla]; exact h) (fun i hi => hv i (by omega) (by omega)))
  rw [hx] at x0 x1 x2
  simp only at x0 x1 x2
  clear hla
  have hw1 : IntKind.i64.wrap ((l.length : Int) - 1) = (m : Int) := by rw [IntWalk.i64_in _ (by omega)]; omega
  have hml : (m : Int) < l.length := by omega
  have hmc : m ≤ cap := by omega
  have hml2 : (m : Int) ≤ l.length := by omega
  have Hm := kept hm
  clear hx h0 hm hmlt
  by_cases hk6 : k1 = 6
  · subst hk6
    by_cases ht : t1 = []
    · subst ht
      have HgE2 := kept (HgE.out rfl)
      clear HlE HgE
      go_enter Tryd.func15, Tryd.ntmps15
      go_wp2
      go_loopw [33] (fun iv wr => ∃ k : Nat, k ≤ m ∧ iv = .int .i64 k ∧ Below w.heap.size w wr ∧ ∀ i, i < m → i < k → ∀ hil : i < l.length, Tok.validB l[i] = true) (fun iv _ => m - (intOf iv).toNat)
      case atStart => exact ⟨0, by omega, rfl, Below.refl _ _, fun i _ hi _ => by omega⟩
      case round =>
        obtain ⟨k, hk, rfl, hbel, hall⟩ := hrel
        have HL := kept hbel; have Hall := kept hall
        have hwr := hbel.size
        clear hbel hall x0 x1 x2
        by_cases hlt : k < m
        · have hlt' : (k : Int) < m := by omega
          have hkl : k < l.length := by have := Hm.out; omega
          obtain ⟨g', off', hgg, y0, y1, y2⟩ := HC.out k hkl
          injection hgg with hgg; injection hgg with h1 h2; subst h1; subst h2
          have ht := Hsm.out.text k hkl
          have HbE2 := kept (HbE.out k hlt hkl)
          obtain ⟨⟨k0, t0, a0⟩, hy⟩ : ∃ x, l[k]'hkl = x := ⟨_, rfl⟩
          rw [hy] at y0 y1 y2 HbE2 ht
          have Hy := kept hy
          simp only at y0 y1 y2 ht
          have y0 := (HL.out.cell (cell_lt' y0)).trans y0; have y1 := (HL.out.cell (cell_lt' y1)).trans y1; have y2 := (HL.out.cell (cell_lt' y2)).trans y2
          have htl : ¬ (65536 : Int) < t0.length := by omega
          have Hva := kept (fun w hT => valid_any k0 a0 t0 w ht hT)
          have HTw := kept (Utf8Tabs_below (Utf8Tabs_below HT.out HL.out) (ball wr (.cells #[.int .i64 k0, .string ⟨t0.toArray⟩, .int .i64 a0] 36)))
          clear hy
          rcases bool_or (Tok.validB (k0, t0, a0)) with hvb | hvb
          · rw [hvb] at Hva
            have Hv1 := kept (show Tok.validB (l[k]'hkl) = true by rw [Hy.out]; exact hvb)
            clear hvb HbE2
            go_wp2_with fail
            (with_reducible refine (Hva.out _ HTw.out).mono ?_); rintro e w5 ⟨rfl, b5⟩
            have HL5 := kept (bthen2 HL.out (bthen (ball wr _) b5) hwr)
            clear b5
            go_wp2
            exact ⟨⟨k + 1, by omega, by go_num, HL5.out, fun i hi hik hil => by
              by_cases hi2 : i = k
              · subst hi2; exact Hv1.out
              · exact Hall.out i hi (by omega) hil⟩, by simp [intOf]; omega⟩
          · have HR := kept (show (1 : Int) = R by rw [← hR, HbE2.out hvb])
            rw [hvb] at Hva
            clear hvb HbE2
            go_wp2_with fail
            (with_reducible refine (Hva.out _ HTw.out).mono ?_); rintro e w5 ⟨rfl, b5⟩
            have HL5 := kept (bthen2 HL.out (bthen (ball wr _) b5) hwr)
            clear b5
            go_wp2
            go_ret
            exact ⟨ret_int HR.out, HL5.out⟩
        · obtain rfl : k = m := by omega
          have hlt' : ¬ (k : Int) < k := by omega
          have Hgd := kept (HgE2.out (fun i hi hil => Hall.out i hi hi hil))
          have Hln := kept (length_any l (.slice (some ⟨g, off, none⟩) l.length cap) wr (Hrd.out.below HL.out) Hsm.out)
          clear HgE2 HbE
          by_cases hbig : 65536 < (Tok.fmt l).length
          · have hbig' : (65536 : Int) < (Tok.fmt l).length := by omega
            have HR := kept (show (3 : Int) = R by rw [← hR, Hgd.out, if_pos hbig])
            go_wp2_with fail
            (with_reducible refine (Hln.out).mono ?_); rintro e w5 ⟨rfl, b5⟩
            have HL5 := kept (bthen2 HL.out b5 hwr)
            clear b5
            go_wp2
            go_ret
            exact ⟨ret_int HR.out, HL5.out⟩
          · have hbig' : ¬ (65536 : Int) < (Tok.fmt l).length := by omega
            have HR := kept (show (0 : Int) = R by rw [← hR, Hgd.out, if_neg hbig])
            go_wp2_with fail
            (with_reducible refine (Hln.out).mono ?_); rintro e w5 ⟨rfl, b5⟩
            have HL5 := kept (bthen2 HL.out b5 hwr)
            clear b5
            go_wp2
            go_ret
            exact ⟨ret_int HR.out, HL5.out⟩
    · have ht' : (t1 != []) = true := by simpa using ht
      have ht1 : t1.isEmpty = false := by cases t1 <;> simp_all
      have HR := kept (show (1 : Int) = R by rw [← hR, HlE.out (by simpa using ht)])
      clear HlE HbE HgE hR ht
      go_enter Tryd.func15, Tryd.ntmps15
      go_wp2
      go_ret
      exact ⟨ret_int HR.out, Below.refl _ _⟩
  · have hk6' : (k1 != 6) = true := by simpa using hk6
    have HR := kept (show (1 : Int) = R by rw [← hR, HlE.out (by simp [hk6])])
    clear HlE HbE HgE hR hk6
    go_enter Tryd.func15, Tryd.ntmps15
    go_wp2
    go_ret
    exact ⟨ret_int HR.out, Below.refl _ _⟩
end Go.Proofs.YtbpaeglmanjbfaaDoor
