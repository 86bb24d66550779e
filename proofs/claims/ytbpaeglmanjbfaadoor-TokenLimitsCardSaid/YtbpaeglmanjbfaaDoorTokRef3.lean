/- The walk of provisionref13.Sign. -/
import Derived.Test.YtbpaeglmanjbfaaDoorTokRef2
namespace Go.Proofs.YtbpaeglmanjbfaaDoor
open Go.RowKit
set_option linter.unusedSimpArgs false
set_option linter.unusedVariables false
namespace Tok
/-- The signs of two bytes. -/
def two (i : Nat) : ByteArray := [⟨#[61, 62]⟩, ⟨#[61, 61]⟩, ⟨#[33, 61]⟩, ⟨#[60, 61]⟩, ⟨#[62, 61]⟩, ⟨#[38, 38]⟩, ⟨#[124, 124]⟩].getD i ⟨#[]⟩
def ones : List UInt8 := [123, 125, 91, 93, 40, 41, 44, 61, 60, 62, 43, 45, 42, 47, 37, 33, 63, 58, 46]
theorem two_is (a b : UInt8) (i : Nat) (hi : i < 7) (h : two i = ⟨#[a, b]⟩) : isTwo a b = true := by
  have hl : (two i).data.toList = [a, b] := by rw [h]
  have : i = 0 ∨ i = 1 ∨ i = 2 ∨ i = 3 ∨ i = 4 ∨ i = 5 ∨ i = 6 := by omega
  rcases this with rfl | rfl | rfl | rfl | rfl | rfl | rfl
  all_goals
    simp [two] at hl
    obtain ⟨rfl, rfl⟩ := hl
    rfl
theorem two_no (a b : UInt8) (h : ∀ i, i < 7 → two i ≠ ⟨#[a, b]⟩) : isTwo a b = false := by
  rw [← Bool.not_eq_true]
  intro hh
  unfold isTwo at hh
  simp only [Bool.or_eq_true, Bool.and_eq_true, beq_iff_eq] at hh
  rcases hh with (((((⟨rfl, rfl⟩ | ⟨rfl, rfl⟩) | ⟨rfl, rfl⟩) | ⟨rfl, rfl⟩) | ⟨rfl, rfl⟩) | ⟨rfl, rfl⟩) | ⟨rfl, rfl⟩
  · exact h 0 (by decide) rfl
  · exact h 1 (by decide) rfl
  · exact h 2 (by decide) rfl
  · exact h 3 (by decide) rfl
  · exact h 4 (by decide) rfl
  · exact h 5 (by decide) rfl
  · exact h 6 (by decide) rfl
theorem extract2 (s : ByteArray) (k : Nat) (h : k + 1 < s.size) : s.extract k (k + 2) = ⟨#[s[k], s[k + 1]]⟩ := by
  refine str_of ?_
  simp only [ByteArray.data_extract, Array.toList_extract, List.extract_eq_take_drop]
  rw [get_cons s k (by omega), get_cons s (k + 1) h, show k + 2 - k = 2 by omega]
  rfl
theorem extract1 (s : ByteArray) (k : Nat) (h : k < s.size) : s.extract k (k + 1) = ⟨#[s[k]]⟩ := by
  refine str_of ?_
  simp only [ByteArray.data_extract, Array.toList_extract, List.extract_eq_take_drop]
  rw [get_cons s k (by omega), show k + 1 - k = 1 by omega]
  rfl
theorem sign_two (s : ByteArray) (k : Nat) (h : k + 1 < s.size) (ht : isTwo s[k] s[k + 1] = true) : signN (s.data.toList.drop k) = 2 := by
  rw [get_cons s k (by omega), get_cons s (k + 1) h]
  show (if isTwo s[k] s[k + 1] then 2 else _) = 2
  rw [if_pos ht]
theorem sign_one (s : ByteArray) (k : Nat) (hk : k < s.size) (h : ∀ h : k + 1 < s.size, isTwo s[k] s[k + 1] = false) : signN (s.data.toList.drop k) = if isOne s[k] then 1 else 0 := by
  rw [get_cons s k hk]
  by_cases h1 : k + 1 < s.size
  · rw [get_cons s (k + 1) h1]
    show (if isTwo s[k] s[k + 1] then 2 else _) = _
    rw [h h1]; rfl
  · rw [drop_end s (k + 1) h1]; rfl
theorem getD_get (l : List UInt8) (i : Nat) (h : i < l.length) : l.getD i 0 = l[i] := by simp [List.getD, h]
theorem ones_is (b : UInt8) : isOne b = true ↔ ∃ i, ∃ h : i < ones.length, ones[i] = b := by
  unfold isOne
  rw [List.contains_iff_mem]
  exact List.mem_iff_getElem
end Tok
set_option maxHeartbeats 800000 in
theorem refSign_any (s : ByteArray) (k : Nat) (w : World) (hs : s.size ≤ 1000000) (hk : k < s.size) :
    Calls Tryd.prog 55 #[.string s, .int .i64 k] w fun e w' => e = .returned (.string ⟨((s.data.toList.drop k).take (Tok.signN (s.data.toList.drop k))).toArray⟩) ∧ Below w.heap.size w w' := by
  have hlt' : (k : Int) < s.size := by omega
  go_enter Tryd.func55, Tryd.ntmps55
  go_wp2
  go_loopw [6] (fun i wr => ∃ j : Nat, j ≤ 7 ∧ i = .int .i64 j ∧ (∀ h : k + 1 < s.size, ∀ i, i < j → Tok.two i ≠ ⟨#[s[k], s[k + 1]]⟩) ∧ (∀ i, i < 7 → wr.cell? ⟨w.heap.size, i, none⟩ = some (.string (Tok.two i))) ∧ Below w.heap.size w wr) (fun i _ => 7 - (intOf i).toNat)
  case atStart =>
    refine ⟨0, by omega, rfl, fun _ i hi => by omega, fun i hi => ?_, ball w _⟩
    have : i = 0 ∨ i = 1 ∨ i = 2 ∨ i = 3 ∨ i = 4 ∨ i = 5 ∨ i = 6 := by omega
    rcases this with rfl | rfl | rfl | rfl | rfl | rfl | rfl
    all_goals
      rw [cell_of_row _ _ _ _ _ _ (heap_alloc_new w _)]; rfl
  case round =>
    obtain ⟨j, hj, rfl, hno, hcell, hbel⟩ := hrel
    have Hno := kept hno; have Hc := kept hcell; have Hl := kept hbel
    clear hno hcell hbel
    by_cases hj7 : j < 7
    · have hc := Hc.out j hj7
      obtain ⟨tb, htb⟩ : ∃ tb, Tok.two j = tb := ⟨_, rfl⟩
      rw [htb] at hc
      have Htb := kept htb
      clear htb
      by_cases h2 : k + 1 < s.size
      · have h2' : (k : Int) + 2 ≤ s.size := by omega
        have hx := Tok.extract2 s k h2
        by_cases hq : [s[k], s[k + 1]] = tb.toList
        · have hq' : ([s[k], s[k + 1]] == tb.toList) = true := by simpa using hq
          have Htw := kept (show tb = ⟨#[s[k], s[k + 1]]⟩ by
            rw [ByteArray.toList_eq] at hq
            exact str_of hq.symm)
          have Hn := kept (Tok.sign_two s k h2 (Tok.two_is _ _ j hj7 (Htb.out.trans Htw.out)))
          clear hq
          go_wp2
          go_quiet (fail)
          go_wp2
          go_ret
          refine ⟨?_, below_drewN Hl.out _⟩
          rw [Hn.out, Tok.get_cons s k hk, Tok.get_cons s (k + 1) h2]
          show Ending.returned (.string tb) = _
          rw [Htw.out]; rfl
        · have hq' : ([s[k], s[k + 1]] == tb.toList) = false := by simpa using hq
          have Hne := kept (show tb ≠ ⟨#[s[k], s[k + 1]]⟩ by
            intro h; apply hq; rw [h, ByteArray.toList_eq])
          clear hq
          go_wp2
          go_quiet (fail)
          go_wp2
          refine ⟨⟨j + 1, by omega, by go_num, ?_, Hc.out, below_drewN Hl.out _⟩, by simp [intOf]; omega⟩
          intro h i hi
          by_cases hij : i = j
          · subst hij; rw [Htb.out]; exact Hne.out
          · exact Hno.out h i (by omega)
      · have h2' : ¬ (k : Int) + 2 ≤ s.size := by omega
        have h2'' : (s.size : Int) < (k : Int) + 2 := by omega
        have h2d : decide ((k : Int) + 2 ≤ s.size) = false := by simpa using h2'
        go_wp2
        go_quiet (fail)
        go_wp2
        exact ⟨⟨j + 1, by omega, by go_num, fun h => absurd h h2, Hc.out, below_drewN Hl.out _⟩, by simp [intOf]; omega⟩
    · have hj7' : ¬ (j : Int) < 7 := by omega
      obtain rfl : j = 7 := by omega
      have Hone := kept (Tok.sign_one s k hk (fun h => Tok.two_no _ _ (fun i hi => Hno.out h i hi)))
      have hx := Tok.extract1 s k hk
      obtain ⟨wo, rfl⟩ : ∃ wo : World, wo = wr := ⟨_, rfl⟩
      go_wp2
      go_loopw [8] (fun i wr => ∃ j : Nat, j ≤ 19 ∧ i = .int .i64 j ∧ (∀ i, i < j → Tok.ones.getD i 0 ≠ s[k]) ∧ Below w.heap.size w wr) (fun i _ => 19 - (intOf i).toNat)
      case atStart => exact ⟨0, by omega, rfl, fun i hi => by omega, Hl.out⟩
      case round =>
        obtain ⟨j, hj, rfl, hno, hbel⟩ := hrel
        have Hno2 := kept hno; have Hl2 := kept hbel
        clear hno hbel
        by_cases hj19 : j < 19
        · have hj19' : (j : Int) < 19 := by omega
          go_wp2
          go_quiet (fail)
          go_wp2
          · rename_i h
            have hb : s[k] = Tok.ones[j]'(show j < 19 from hj19) := by
              rw [← UInt8.toNat_inj]
              have h2 := of_decide_eq_true h
              exact_mod_cast h2
            have Hn := kept (Hone.out.trans (if_pos ((Tok.ones_is _).2 ⟨j, hj19, hb.symm⟩)))
            clear h hb
            go_ret
            refine ⟨?_, below_drewN Hl2.out _⟩
            rw [Hn.out, Tok.get_cons s k hk]
            rfl
          · rename_i h
            have hb : Tok.ones.getD j 0 ≠ s[k] := by
              intro hb
              rw [Tok.getD_get _ _ (show j < Tok.ones.length from hj19)] at hb
              have h2 := of_decide_eq_false h
              apply h2
              rw [← hb]; rfl
            have Hn := kept hb
            clear h hb
            refine ⟨⟨j + 1, by omega, by go_num, ?_, below_drewN Hl2.out _⟩, by simp [intOf]; omega⟩
            intro i hi
            by_cases hij : i = j
            · subst hij; exact Hn.out
            · exact Hno2.out i (by omega)
        · obtain rfl : j = 19 := by omega
          have Hn := kept (Hone.out.trans (if_neg (by
            rw [Tok.ones_is]
            rintro ⟨i, hi, h⟩
            have h2 := Hno2.out i hi
            rw [Tok.getD_get _ _ hi] at h2
            exact h2 h)))
          go_wp2
          go_ret
          refine ⟨?_, Hl2.out⟩
          rw [Hn.out]; rfl
end Go.Proofs.YtbpaeglmanjbfaaDoor
