/- The walk of token.signAt. -/
import Derived.Test.YtbpaeglmanjbfaaDoorTokProg2
import Derived.Test.YtbpaeglmanjbfaaDoorShelf
namespace Go.Proofs.YtbpaeglmanjbfaaDoor
open Go.RowKit
set_option linter.unusedSimpArgs false
set_option linter.unusedVariables false
def twosV : Value := .agg #[.string ⟨#[61, 62]⟩, .string ⟨#[61, 61]⟩, .string ⟨#[33, 61]⟩, .string ⟨#[60, 61]⟩, .string ⟨#[62, 61]⟩, .string ⟨#[38, 38]⟩, .string ⟨#[124, 124]⟩]
theorem twos_index (j : Nat) (hj : j < 7) (w : World) : (Instr.index 90 twosV (.int .i64 (j : Int))).run Tryd.prog w = .ok (.string (Tok.two j)) w := by
  have : j = 0 ∨ j = 1 ∨ j = 2 ∨ j = 3 ∨ j = 4 ∨ j = 5 ∨ j = 6 := by omega
  rcases this with rfl | rfl | rfl | rfl | rfl | rfl | rfl
  all_goals rfl
namespace Tok
theorem pre_two (l : List UInt8) (j : Nat) (hj : j < 7) (h : Lib.hasPrefix l (two j).data.toList = true) : signN l = 2 ∧ l.take 2 = (two j).data.toList := by
  have hx : ∃ a b, (two j).data.toList = [a, b] ∧ isTwo a b = true := by
    have : j = 0 ∨ j = 1 ∨ j = 2 ∨ j = 3 ∨ j = 4 ∨ j = 5 ∨ j = 6 := by omega
    rcases this with rfl | rfl | rfl | rfl | rfl | rfl | rfl
    all_goals exact ⟨_, _, rfl, rfl⟩
  obtain ⟨a, b, e, ht⟩ := hx
  rw [e] at h ⊢
  unfold Lib.hasPrefix at h
  match l with
  | [] => simp at h
  | [c] => simp [List.isPrefixOf] at h
  | c :: d :: l =>
    simp [List.isPrefixOf] at h
    obtain ⟨rfl, rfl⟩ := h
    exact ⟨by show (if isTwo a b then 2 else _) = 2; rw [if_pos ht], rfl⟩
theorem pre_none (c : UInt8) (l : List UInt8) (h : ∀ i, i < 7 → Lib.hasPrefix (c :: l) (two i).data.toList = false) : signN (c :: l) = if isOne c then 1 else 0 := by
  match l with
  | [] => rfl
  | d :: l =>
    have : isTwo c d = false := two_no c d (fun i hi he => by
      have := h i hi
      rw [he] at this
      simp [Lib.hasPrefix, List.isPrefixOf] at this)
    show (if isTwo c d then 2 else if isOne c then 1 else 0) = _
    rw [this]; rfl
set_option maxRecDepth 100000 in
theorem one_index : ∀ q : Fin 256, (decide (Lib.indexByte [123, 125, 91, 93, 40, 41, 44, 61, 60, 62, 43, 45, 42, 47, 37, 33, 63, 58, 46] (UInt8.ofNat q.val) < 0)) = !isOne (UInt8.ofNat q.val) := by decide
end Tok
set_option maxHeartbeats 1000000 in
theorem signAt_any (s : ByteArray) (w : World) :
    Calls Tryd.prog 48 #[.string s] w fun e w' => e = .returned (.string ⟨(s.data.toList.take (Tok.signN s.data.toList)).toArray⟩) ∧ w' = w := by
  go_enter Tryd.func48, Tryd.ntmps48
  go_wp2
  go_loop [6] (fun i => ∃ j : Nat, j ≤ 7 ∧ i = .int .i64 j ∧ (∀ i, i < j → Lib.hasPrefix s.data.toList (Tok.two i).data.toList = false)) (fun i => 7 - (intOf i).toNat)
  case atStart => exact ⟨0, by omega, rfl, fun i hi => by omega⟩
  case round =>
    obtain ⟨j, hj, rfl, hno⟩ := hrel
    have Hno := kept hno; clear hno
    by_cases hj7 : j < 7
    · have hix := twos_index j hj7
      unfold twosV at hix
      have hj7' : (j : Int) < 7 := by omega
      have Hp := kept (fun w => Tryd.strings_HasPrefix s (Tok.two j) w)
      have Hpt := kept (Tok.pre_two s.data.toList j hj7)
      rcases bool_or (Lib.hasPrefix s.data.toList (Tok.two j).data.toList) with hp | hp
      · have Hpt2 := kept (Hpt.out hp)
        rw [hp] at Hp
        clear hp
        go_wp2_with fail
        (with_reducible refine (Hp.out _).mono ?_); rintro e w1 ⟨rfl, rfl⟩
        go_wp2
        go_ret
        refine ⟨?_, rfl⟩
        rw [Hpt2.out.1, Hpt2.out.2]; rfl
      · have Hp2 := kept hp
        rw [hp] at Hp
        clear hp
        go_wp2_with fail
        (with_reducible refine (Hp.out _).mono ?_); rintro e w1 ⟨rfl, rfl⟩
        go_wp2
        refine ⟨⟨j + 1, by omega, by go_num, fun i hi => ?_⟩, by simp [intOf]; omega⟩
        by_cases hij : i = j
        · subst hij; exact Hp2.out
        · exact Hno.out i (by omega)
    · have hj7' : ¬ (j : Int) < 7 := by omega
      by_cases h0 : s.size = 0
      · have hs : s = ⟨#[]⟩ := by apply ByteArray.ext; exact Array.eq_empty_of_size_eq_zero h0
        subst hs
        go_wp2
        go_ret
        exact ⟨rfl, rfl⟩
      · have hlt : 0 < s.size := by omega
        have hlt' : (0 : Int) < s.size := by omega
        have hd : s.data.toList = s[0] :: s.data.toList.drop 1 := by have := Tok.get_cons s 0 hlt; simpa using this
        have hie : s.toList.isEmpty = false := by rw [ByteArray.toList_eq, hd]; rfl
        have hs1 : Tok.signN s.data.toList = if Tok.isOne s[0] then 1 else 0 := by
          have := Tok.pre_none s[0] (s.data.toList.drop 1) (fun i hi => by rw [← hd]; exact Hno.out i (by omega))
          rwa [← hd] at this
        have Hs1 := kept hs1
        have hx := Tok.one_index ⟨s[0].toNat, s[0].toNat_lt⟩
        simp only [UInt8.ofNat_toNat] at hx
        have Hi : Kept (∀ w : World, Calls Tryd.prog 47 #[.string ⟨#[123, 125, 91, 93, 40, 41, 44, 61, 60, 62, 43, 45, 42, 47, 37, 33, 63, 58, 46]⟩, .int .u8 s[0].toNat] w fun e w' => e = .returned (.int .i64 (Lib.indexByte [123, 125, 91, 93, 40, 41, 44, 61, 60, 62, 43, 45, 42, 47, 37, 33, 63, 58, 46] s[0])) ∧ w' = w) := by
          refine kept fun w => (Tryd.strings_IndexByte ⟨#[123, 125, 91, 93, 40, 41, 44, 61, 60, 62, 43, 45, 42, 47, 37, 33, 63, 58, 46]⟩ (s[0].toNat : Int) w).mono fun e w' h => ?_
          simpa using h
        have hxt : s.extract 0 1 = ⟨#[s[0]]⟩ := Tok.extract1 s 0 hlt
        have Hd := kept hd
        obtain ⟨z, hz⟩ : ∃ z, Lib.indexByte [123, 125, 91, 93, 40, 41, 44, 61, 60, 62, 43, 45, 42, 47, 37, 33, 63, 58, 46] s[0] = z := ⟨_, rfl⟩
        rw [hz] at Hi hx
        clear hs1 hd h0 hz
        rcases bool_or (Tok.isOne s[0]) with ho | ho
        · rw [ho] at hx Hs1
          have hzz : ¬ z < 0 := by simpa using hx
          clear hx ho
          go_wp2_with fail
          (with_reducible refine (Hi.out _).mono ?_); rintro e w1 ⟨rfl, rfl⟩
          go_wp2
          go_ret
          refine ⟨?_, rfl⟩
          rw [Hs1.out, Hd.out]; rfl
        · rw [ho] at hx Hs1
          have hzz : z < 0 := by simpa using hx
          clear hx ho
          go_wp2_with fail
          (with_reducible refine (Hi.out _).mono ?_); rintro e w1 ⟨rfl, rfl⟩
          go_wp2
          go_ret
          refine ⟨?_, rfl⟩
          rw [Hs1.out]; rfl
end Go.Proofs.YtbpaeglmanjbfaaDoor
