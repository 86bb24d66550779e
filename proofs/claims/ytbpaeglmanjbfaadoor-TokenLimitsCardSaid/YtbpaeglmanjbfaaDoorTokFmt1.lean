/- The walk of token's apart. -/
import Derived.Test.YtbpaeglmanjbfaaDoorTokProg12
namespace Go.Proofs.YtbpaeglmanjbfaaDoor
open Go.RowKit
set_option linter.unusedSimpArgs false
set_option linter.unusedVariables false
namespace Tok
/-- Must a blank stand between two tokens? -/
def apartB (k1 : Int) (t1 : List UInt8) (k2 : Int) (t2 : List UInt8) : Bool :=
  if k1 = 1 then k2 == 1 || k2 == 2
  else if k1 = 2 then k2 == 2
  else if k1 = 4 ∧ k2 = 4 then
    if t2.take 1 = [61] then t1 == [61] || t1 == [33] || t1 == [60] || t1 == [62]
    else t1 == [61] && decide (t2.take 1 = [62])
  else false
end Tok
set_option maxRecDepth 100000 in
theorem four_fin : ∀ q : Fin 256, decide (0 ≤ Lib.indexByte [61, 33, 60, 62] (UInt8.ofNat q.val)) = ([UInt8.ofNat q.val] == [61] || [UInt8.ofNat q.val] == [33] || [UInt8.ofNat q.val] == [60] || [UInt8.ofNat q.val] == [62]) := by decide
theorem four_idx (c : UInt8) : decide (0 ≤ Lib.indexByte [61, 33, 60, 62] c) = ([c] == [61] || [c] == [33] || [c] == [60] || [c] == [62]) := by
  have h := four_fin ⟨c.toNat, c.toNat_lt⟩
  simpa only [UInt8.ofNat_toNat] using h
set_option maxHeartbeats 2000000 in
theorem apart_any (k1 a1 k2 a2 : Int) (t1 t2 : List UInt8) (w : World) (h1 : t1.length ≤ 1000000) :
    Calls Tryd.prog 37 #[.agg #[.int .i64 k1, .string ⟨t1.toArray⟩, .int .i64 a1], .agg #[.int .i64 k2, .string ⟨t2.toArray⟩, .int .i64 a2]] w fun e w' => e = .returned (.bool (Tok.apartB k1 t1 k2 t2)) ∧ Below w.heap.size w w' := by
  obtain ⟨R, hR⟩ : ∃ R, Tok.apartB k1 t1 k2 t2 = R := ⟨_, rfl⟩
  rw [hR]
  have HB := kept (((ball w (.cells #[.int .i64 k1, .string ⟨t1.toArray⟩, .int .i64 a1] 36)).alloc (by simp) (.cells #[.int .i64 k2, .string ⟨t2.toArray⟩, .int .i64 a2] 36)))
  by_cases c1 : k1 = 1
  · subst c1
    by_cases d1 : k2 = 1
    · subst d1
      have HR := kept (show true = R by rw [← hR]; rfl)
      clear hR
      go_enter Tryd.func37, Tryd.ntmps37
      go_wp2
      go_ret
      exact ⟨ret_bool HR.out, ((ball w _).alloc (by simp) _)⟩
    have e1 : (k2 == 1) = false := by simpa using d1
    by_cases d2 : k2 = 2
    · subst d2
      have HR := kept (show true = R by rw [← hR]; rfl)
      clear hR
      go_enter Tryd.func37, Tryd.ntmps37
      go_wp2
      go_ret
      exact ⟨ret_bool HR.out, ((ball w _).alloc (by simp) _)⟩
    have e2 : (k2 == 2) = false := by simpa using d2
    have HR := kept (show false = R by rw [← hR]; simp [Tok.apartB, d1, d2])
    clear hR
    go_enter Tryd.func37, Tryd.ntmps37
    go_wp2
    go_ret
    exact ⟨ret_bool HR.out, ((ball w _).alloc (by simp) _)⟩
  have e1 : (k1 == 1) = false := by simpa using c1
  by_cases c2 : k1 = 2
  · subst c2
    by_cases d2 : k2 = 2
    · subst d2
      have HR := kept (show true = R by rw [← hR]; rfl)
      clear hR
      go_enter Tryd.func37, Tryd.ntmps37
      go_wp2
      go_ret
      exact ⟨ret_bool HR.out, ((ball w _).alloc (by simp) _)⟩
    have e2 : (k2 == 2) = false := by simpa using d2
    have HR := kept (show false = R by rw [← hR]; simp [Tok.apartB, d2])
    clear hR
    go_enter Tryd.func37, Tryd.ntmps37
    go_wp2
    go_ret
    exact ⟨ret_bool HR.out, ((ball w _).alloc (by simp) _)⟩
  have e2 : (k1 == 2) = false := by simpa using c2
  by_cases c4 : k1 = 4
  · subst c4
    by_cases d4 : k2 = 4
    · subst d4
      have hR2 : (if t2.take 1 = [61] then t1 == [61] || t1 == [33] || t1 == [60] || t1 == [62] else t1 == [61] && decide (t2.take 1 = [62])) = R := by rw [← hR]; rfl
      have Hp1 : Kept (∀ w : World, Calls Tryd.prog 43 #[.string ⟨t2.toArray⟩, .string ⟨#[61]⟩] w fun e w' => e = .returned (.bool (decide (t2.take 1 = [61]))) ∧ w' = w) := by
        refine kept fun w => ?_
        have h := Tryd.strings_HasPrefix ⟨t2.toArray⟩ ⟨#[61]⟩ w
        rw [Tok.pre_take] at h
        exact h
      have Hp2 : Kept (∀ w : World, Calls Tryd.prog 43 #[.string ⟨t2.toArray⟩, .string ⟨#[62]⟩] w fun e w' => e = .returned (.bool (decide (t2.take 1 = [62]))) ∧ w' = w) := by
        refine kept fun w => ?_
        have h := Tryd.strings_HasPrefix ⟨t2.toArray⟩ ⟨#[62]⟩ w
        rw [Tok.pre_take] at h
        exact h
      clear hR
      by_cases p61 : t2.take 1 = [61]
      · rw [if_pos p61] at hR2
        have hd : decide (t2.take 1 = [61]) = true := by simpa using p61
        rw [hd] at Hp1
        clear hd p61
        by_cases hl : t1.length = 1
        · obtain ⟨c, rfl⟩ : ∃ c, t1 = [c] := by
            match t1, hl with
            | [c], _ => exact ⟨c, rfl⟩
          have HR := kept (show decide (0 ≤ Lib.indexByte [61, 33, 60, 62] c) = R by rw [← hR2]; exact four_idx c)
          have Hc := kept (fun w => Tryd.strings_Contains_one ⟨#[61, 33, 60, 62]⟩ c w)
          clear hR2 hl
          go_enter Tryd.func37, Tryd.ntmps37
          go_wp2_with fail
          (with_reducible refine (Hp1.out _).mono ?_); rintro e w1 ⟨rfl, rfl⟩
          go_wp2_with fail
          (with_reducible refine (Hc.out _).mono ?_); rintro e w1 ⟨rfl, rfl⟩
          go_wp2
          go_ret
          exact ⟨ret_bool HR.out, ((ball w _).alloc (by simp) _)⟩
        · have hl1 : ((t1.length : Int) == 1) = false := by simp; omega
          have HR := kept (show false = R by
            rw [← hR2]
            have hn : ∀ b : UInt8, (t1 == [b]) = false := fun b => by simp; intro h; rw [h] at hl; exact hl rfl
            rw [hn, hn, hn, hn]; rfl)
          clear hR2 hl
          go_enter Tryd.func37, Tryd.ntmps37
          go_wp2_with fail
          (with_reducible refine (Hp1.out _).mono ?_); rintro e w1 ⟨rfl, rfl⟩
          go_wp2
          go_ret
          exact ⟨ret_bool HR.out, ((ball w _).alloc (by simp) _)⟩
      · rw [if_neg p61] at hR2
        have hd : decide (t2.take 1 = [61]) = false := by simpa using p61
        rw [hd] at Hp1
        clear hd p61
        rcases bool_or (t1 == [61]) with ht | ht
        · have HR := kept (show decide (t2.take 1 = [62]) = R by rw [← hR2, ht]; rfl)
          obtain rfl : t1 = [61] := by simpa using ht
          clear hR2 ht
          rw [HR.out] at Hp2
          go_enter Tryd.func37, Tryd.ntmps37
          go_wp2_with fail
          (with_reducible refine (Hp1.out _).mono ?_); rintro e w1 ⟨rfl, rfl⟩
          go_wp2_with fail
          (with_reducible refine (Hp2.out _).mono ?_); rintro e w1 ⟨rfl, rfl⟩
          go_wp2
          go_ret
          exact ⟨rfl, ((ball w _).alloc (by simp) _)⟩
        · have HR := kept (show false = R by rw [← hR2, ht]; rfl)
          clear hR2
          go_enter Tryd.func37, Tryd.ntmps37
          go_wp2_with fail
          (with_reducible refine (Hp1.out _).mono ?_); rintro e w1 ⟨rfl, rfl⟩
          go_wp2
          go_ret
          exact ⟨ret_bool HR.out, ((ball w _).alloc (by simp) _)⟩
    · have d4' : (k2 != 4) = true := by simpa using d4
      have HR := kept (show false = R by rw [← hR]; simp [Tok.apartB, d4])
      clear hR
      go_enter Tryd.func37, Tryd.ntmps37
      go_wp2
      go_ret
      exact ⟨ret_bool HR.out, ((ball w _).alloc (by simp) _)⟩
  · have c4' : (k1 != 4) = true := by simpa using c4
    have HR := kept (show false = R by rw [← hR]; simp [Tok.apartB, c1, c2, c4])
    clear hR
    go_enter Tryd.func37, Tryd.ntmps37
    go_wp2
    go_ret
    exact ⟨ret_bool HR.out, ((ball w _).alloc (by simp) _)⟩
end Go.Proofs.YtbpaeglmanjbfaaDoor
