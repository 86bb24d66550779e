/- The walk of the law TokenLimits. -/
import Derived.Test.YtbpaeglmanjbfaaDoorTokLaw1
import Derived.Test.YtbpaeglmanjbfaaDoorTokLim
import Derived.IntWalk
import Derived.Deep.RegionWith
import Derived.StillTailTactics
namespace Go.Proofs.YtbpaeglmanjbfaaDoor
open Go.RowKit
set_option linter.unusedSimpArgs false
set_option linter.unusedVariables false
/-- Scan's error alone. -/
theorem scan_diag (X : List UInt8) (hX : X.length ≤ 1000000) (e p : Int) (h : (Tok.scan X).e = e ∧ ((Tok.scan X).at' : Int) = p) (w : World) (hT : Lib.Utf8Tabs 1 2 w) :
    Calls Tryd.prog 11 #[.string ⟨X.toArray⟩] w fun e' w' => (∃ v, e' = .returned (.tuple #[v, .agg #[.int .i64 e, .int .i64 p, .string ⟨#[]⟩]])) ∧ Below w.heap.size w w' := by
  refine (scan_any ⟨X.toArray⟩ (by rw [size_mk]; omega) w hT).mono ?_
  rintro e' w' ⟨v, rfl, _, hb⟩
  obtain ⟨rfl, rfl⟩ := h
  exact ⟨⟨v, rfl⟩, hb⟩
theorem repeat_any (b : UInt8) (n : Nat) (hn : n ≤ 1000000) (w : World) : Calls Tryd.prog 22 #[.string ⟨#[b]⟩, .int .i64 (n : Int)] w fun e w' => e = .returned (.string ⟨(List.replicate n b).toArray⟩) ∧ Below w.heap.size w w' := by
  have h := Tryd.strings_Repeat ⟨#[b]⟩ n w (by omega) (by show 1 * n ≤ _; omega)
  rw [show (⟨#[b]⟩ : ByteArray).data.toList = [b] from rfl, Tok.repeat_one] at h
  exact h
theorem int_eq_nat {n : Nat} {z : Int} (h : n = z.toNat) (h0 : 0 ≤ z) : (n : Int) = z := by omega
set_option maxRecDepth 100000 in
set_option maxHeartbeats 40000000 in
theorem tokenLimits_any (x y z : Int) (w : World) (hx0 : 0 ≤ x) (hx1 : x < 256) (hy0 : 0 ≤ y) (hy1 : y < 256) (hz0 : 0 ≤ z) (hz1 : z < 256) (hT : Lib.Utf8Tabs 1 2 w) :
    Calls Tryd.prog 9 #[.int .u8 x, .int .u8 y, .int .u8 z] w fun e w' => e = .returned (.bool true) ∧ Below w.heap.size w w' := by
  have HT := kept hT
  have Ha := kept (fun w hT => awake_any w hT)
  clear hT
  obtain ⟨a, ha⟩ : ∃ a : Nat, x % 3 = a := ⟨(x % 3).toNat, by omega⟩
  obtain ⟨b, hb⟩ : ∃ b : Nat, x % 4 = b := ⟨(x % 4).toNat, by omega⟩
  obtain ⟨c, rfl⟩ : ∃ c : Nat, y = c := ⟨y.toNat, by omega⟩
  obtain ⟨n, hn⟩ : ∃ n : Nat, z % 40 = n := ⟨(z % 40).toNat, by omega⟩
  have ha3 : a < 3 := by omega
  have hb4 : b < 4 := by omega
  have hn40 : n < 40 := by omega
  have hc256 : c < 256 := by omega
  have Hr1 : Kept (∀ w : World, Calls Tryd.prog 22 #[.string ⟨#[32]⟩, .int .i64 (65536 + (a : Int))] w fun e w' => e = .returned (.string ⟨(List.replicate (65536 + a) 32).toArray⟩) ∧ Below w.heap.size w w') := kept fun w => by
    have h := repeat_any 32 (65536 + a) (by omega) w
    rwa [show ((65536 + a : Nat) : Int) = 65536 + (a : Int) by omega] at h
  have Hr2 : Kept (∀ w : World, Calls Tryd.prog 22 #[.string ⟨#[40]⟩, .int .i64 (16382 + (b : Int))] w fun e w' => e = .returned (.string ⟨(List.replicate (16382 + b) 40).toArray⟩) ∧ Below w.heap.size w w') := kept fun w => by
    have h := repeat_any 40 (16382 + b) (by omega) w
    rwa [show ((16382 + b : Nat) : Int) = 16382 + (b : Int) by omega] at h
  have Hr3 := kept (fun w => repeat_any 97 c (by omega) w)
  have Hr4 : Kept (∀ w : World, Calls Tryd.prog 22 #[.string ⟨#[34, 36, 123]⟩, .int .i64 (n : Int)] w fun e w' => e = .returned (.string ⟨(Lib.repeatL [34, 36, 123] n).toArray⟩) ∧ Below w.heap.size w w') := kept fun w =>
    Tryd.strings_Repeat ⟨#[34, 36, 123]⟩ n w (by omega) (by show 3 * n ≤ _; omega)
  have Hr5 : Kept (∀ w : World, Calls Tryd.prog 22 #[.string ⟨#[125, 34]⟩, .int .i64 (n : Int)] w fun e w' => e = .returned (.string ⟨(Lib.repeatL [125, 34] n).toArray⟩) ∧ Below w.heap.size w w') := kept fun w =>
    Tryd.strings_Repeat ⟨#[125, 34]⟩ n w (by omega) (by show 2 * n ≤ _; omega)
  obtain ⟨X1, hX1⟩ : ∃ X, List.replicate (65536 + a) (32 : UInt8) = X := ⟨_, rfl⟩
  obtain ⟨X2, hX2⟩ : ∃ X, List.replicate (16382 + b) (40 : UInt8) = X := ⟨_, rfl⟩
  obtain ⟨R3, hR3⟩ : ∃ X, List.replicate c (97 : UInt8) = X := ⟨_, rfl⟩
  obtain ⟨R4, hR4⟩ : ∃ X, Lib.repeatL [34, 36, 123] n = X := ⟨_, rfl⟩
  obtain ⟨R5, hR5⟩ : ∃ X, Lib.repeatL [125, 34] n = X := ⟨_, rfl⟩
  have hX4e : R4 ++ (49 :: (R5 ++ [])) = Tok.nest n [] := by rw [← hR4, ← hR5]; exact Tok.repeat_nest n []
  rw [List.append_nil] at hX4e
  have hX4l : R4.length + (R5.length + 1) = 5 * n + 1 := by have := congrArg List.length hX4e; rw [Tok.nest_len] at this; simpa using this
  obtain ⟨X3, hX3⟩ : ∃ X, 61 :: 32 :: R3 = X := ⟨_, rfl⟩
  have hc3 : ∀ w : World, (Op.stringOp .add ⟨#[61, 32]⟩ ⟨R3.toArray⟩).run Tryd.prog w = .ok (.string ⟨X3.toArray⟩) w := fun w => by rw [← hX3]; exact run_cat w (l := [61, 32]) (m := R3) rfl rfl (by rw [← hR3]; simp; omega)
  obtain ⟨Y4, hY4⟩ : ∃ X, R4 ++ [49] = X := ⟨_, rfl⟩
  obtain ⟨X4, hX4⟩ : ∃ X, Y4 ++ R5 = X := ⟨_, rfl⟩
  have hc4 : ∀ w : World, (Op.stringOp .add ⟨R4.toArray⟩ ⟨#[49]⟩).run Tryd.prog w = .ok (.string ⟨Y4.toArray⟩) w := fun w => by rw [← hY4]; exact run_cat w (l := R4) (m := [49]) rfl rfl (by simp; omega)
  have hc5 : ∀ w : World, (Op.stringOp .add ⟨Y4.toArray⟩ ⟨R5.toArray⟩).run Tryd.prog w = .ok (.string ⟨X4.toArray⟩) w := fun w => by rw [← hX4]; exact run_cat w rfl rfl (by rw [← hY4]; simp; omega)
  have hX4n : X4 = Tok.nest n [] := by rw [← hX4, ← hY4, ← hX4e]; simp
  rw [hX1] at Hr1; rw [hX2] at Hr2; rw [hR3] at Hr3; rw [hR4] at Hr4; rw [hR5] at Hr5
  have Hs1 : Kept (∀ e p : Int, e = (if 0 < a then 3 else 0) → p = 0 → ∀ w hT, _) := kept (fun e p he hp w hT => scan_diag X1 (by rw [← hX1]; simp; omega) e p (by
    rw [← hX1, he, hp]
    by_cases h : 0 < a
    · rw [(Tok.scan_blanks (65536 + a)).1 (by omega), if_pos h]; exact ⟨rfl, rfl⟩
    · rw [(Tok.scan_blanks (65536 + a)).2 (by omega), if_neg h]; exact ⟨rfl, rfl⟩) w hT)
  have Hs2 : Kept (∀ e p : Int, e = (if 2 ≤ b then 14 else 0) → p = (if 2 ≤ b then 16384 else 0) → ∀ w hT, _) := kept (fun e p he hp w hT => scan_diag X2 (by rw [← hX2]; simp; omega) e p (by
    rw [← hX2, he, hp]
    have h := Tok.scan_parens (16382 + b) (by omega)
    rw [h.1, h.2]
    by_cases h : 2 ≤ b
    · rw [if_pos h, if_pos h, if_pos (by omega), if_pos (by omega)]; exact ⟨rfl, rfl⟩
    · rw [if_neg h, if_neg h, if_neg (by omega), if_neg (by omega)]; exact ⟨rfl, rfl⟩) w hT)
  have Hs3 : Kept (∀ e p : Int, e = (if 64 < c then 7 else 0) → p = (if 64 < c then 2 else 0) → ∀ w hT, _) := kept (fun e p he hp w hT => scan_diag X3 (by rw [← hX3, ← hR3]; simp; omega) e p (by
    rw [← hX3, ← hR3, he, hp]
    have h := Tok.scan_name c hc256
    rw [h.1, h.2]
    by_cases h : 64 < c
    · rw [if_pos h, if_pos h, if_pos h]; exact ⟨rfl, rfl⟩
    · rw [if_neg h, if_neg h, if_neg h]; exact ⟨rfl, rfl⟩) w hT)
  have Hs4 : Kept (∀ e p : Int, e = (if 32 < n then 4 else 0) → p = (if 32 < n then 97 else 0) → ∀ w hT, _) := kept (fun e p he hp w hT => scan_diag X4 (by rw [hX4n, Tok.nest_len]; simp; omega) e p (by
    rw [hX4n, he, hp]
    have h := Tok.scan_nest n hn40
    rw [h.1, h.2]
    by_cases h : 32 < n
    · rw [if_pos h, if_pos h, if_pos h]; exact ⟨rfl, rfl⟩
    · rw [if_neg h, if_neg h, if_neg h]; exact ⟨rfl, rfl⟩) w hT)
  clear hX1 hX2 hR3 hR4 hR5 hX4e hX4l hX3 hY4 hX4 hX4n
  go_enter Tryd.func9, Tryd.ntmps9
  go_wp2_with fail
  (with_reducible refine (Hr1.out _).mono ?_); rintro e u1 ⟨rfl, b1⟩
  have Bn := kept b1
  clear b1
  by_cases hcase1 : 0 < a
  · have hq1 : 0 < x % 3 := by omega
    have hq1a : (0 : Int) < (a : Int) := by omega
    have Hq := kept (fun w hT => Hs1.out 3 0 (by rw [if_pos hcase1]) rfl w hT)
    clear hcase1
    go_wp2_with fail
    (with_reducible refine (Hq.out _ (Utf8Tabs_below HT.out Bn.out)).mono ?_); rintro e z1 ⟨⟨v1, rfl⟩, b1⟩
    have Bn := kept (bthen Bn.out b1)
    clear b1
    obtain ⟨t1, t2, tb⟩ := two_at z1 26 26 (.int .i64 3) (.int .i64 0) (.string ⟨#[]⟩) (.int .i64 3) (.int .i64 0) (.string ⟨#[]⟩)
    have L1 := kept t1
    have M1 := kept t2
    have BB := kept (bthen Bn.out tb)
    clear t1 t2 tb
    go_wp2_with fail
    (with_reducible refine (Hr2.out _).mono ?_); rintro e u1 ⟨rfl, b1⟩
    have Bn := kept (bthen BB.out b1)
    have L1 := kept (L1.out.below b1)
    have M1 := kept (M1.out.below b1)
    clear b1
    by_cases hcase2 : 2 ≤ b
    · have hq2 : (16384 : Int) ≤ 16382 + (b : Int) := by omega
      have Hq := kept (fun w hT => Hs2.out 14 16384 (by rw [if_pos hcase2]) (by rw [if_pos hcase2]) w hT)
      clear hcase2
      go_wp2_with fail
      (with_reducible refine (Hq.out _ (Utf8Tabs_below HT.out Bn.out)).mono ?_); rintro e z2 ⟨⟨v2, rfl⟩, b1⟩
      have Bn := kept (bthen Bn.out b1)
      have L1 := kept (L1.out.below b1)
      have M1 := kept (M1.out.below b1)
      clear b1
      obtain ⟨t1, t2, tb⟩ := two_at z2 26 26 (.int .i64 14) (.int .i64 16384) (.string ⟨#[]⟩) (.int .i64 14) (.int .i64 16384) (.string ⟨#[]⟩)
      have L1 := kept (L1.out.below tb)
      have M1 := kept (M1.out.below tb)
      have L2 := kept t1
      have M2 := kept t2
      have BB := kept (bthen Bn.out tb)
      clear t1 t2 tb
      go_wp2_with fail
      (with_reducible refine (Hr3.out _).mono ?_); rintro e u1 ⟨rfl, b1⟩
      have Bn := kept (bthen BB.out b1)
      have L1 := kept (L1.out.below b1)
      have M1 := kept (M1.out.below b1)
      have L2 := kept (L2.out.below b1)
      have M2 := kept (M2.out.below b1)
      clear b1
      by_cases hcase3 : 64 < c
      · have hq3 : (64 : Int) < (c : Int) := by omega
        have Hq := kept (fun w hT => Hs3.out 7 2 (by rw [if_pos hcase3]) (by rw [if_pos hcase3]) w hT)
        clear hcase3
        go_wp2_with fail
        (with_reducible refine (Hq.out _ (Utf8Tabs_below HT.out Bn.out)).mono ?_); rintro e z3 ⟨⟨v3, rfl⟩, b1⟩
        have Bn := kept (bthen Bn.out b1)
        have L1 := kept (L1.out.below b1)
        have M1 := kept (M1.out.below b1)
        have L2 := kept (L2.out.below b1)
        have M2 := kept (M2.out.below b1)
        clear b1
        obtain ⟨t1, t2, tb⟩ := two_at z3 26 26 (.int .i64 7) (.int .i64 2) (.string ⟨#[]⟩) (.int .i64 7) (.int .i64 2) (.string ⟨#[]⟩)
        have L1 := kept (L1.out.below tb)
        have M1 := kept (M1.out.below tb)
        have L2 := kept (L2.out.below tb)
        have M2 := kept (M2.out.below tb)
        have L3 := kept t1
        have M3 := kept t2
        have BB := kept (bthen Bn.out tb)
        clear t1 t2 tb
        go_wp2_with fail
        (with_reducible refine (Hr4.out _).mono ?_); rintro e u1 ⟨rfl, b1⟩
        have Bn := kept (bthen BB.out b1)
        have L1 := kept (L1.out.below b1)
        have M1 := kept (M1.out.below b1)
        have L2 := kept (L2.out.below b1)
        have M2 := kept (M2.out.below b1)
        have L3 := kept (L3.out.below b1)
        have M3 := kept (M3.out.below b1)
        clear b1
        go_wp2_with fail
        (with_reducible refine (Hr5.out _).mono ?_); rintro e u2 ⟨rfl, b1⟩
        have Bn := kept (bthen Bn.out b1)
        have L1 := kept (L1.out.below b1)
        have M1 := kept (M1.out.below b1)
        have L2 := kept (L2.out.below b1)
        have M2 := kept (M2.out.below b1)
        have L3 := kept (L3.out.below b1)
        have M3 := kept (M3.out.below b1)
        clear b1
        by_cases hcase4 : 32 < n
        · have hq4 : (32 : Int) < (n : Int) := by omega
          have Hq := kept (fun w hT => Hs4.out 4 97 (by rw [if_pos hcase4]) (by rw [if_pos hcase4]) w hT)
          clear hcase4
          go_wp2_with fail
          (with_reducible refine (Hq.out _ (Utf8Tabs_below HT.out Bn.out)).mono ?_); rintro e z4 ⟨⟨v4, rfl⟩, b1⟩
          have Bn := kept (bthen Bn.out b1)
          have L1 := kept (L1.out.below b1)
          have M1 := kept (M1.out.below b1)
          have L2 := kept (L2.out.below b1)
          have M2 := kept (M2.out.below b1)
          have L3 := kept (L3.out.below b1)
          have M3 := kept (M3.out.below b1)
          clear b1
          obtain ⟨t1, t2, tb⟩ := two_at z4 26 26 (.int .i64 4) (.int .i64 97) (.string ⟨#[]⟩) (.int .i64 4) (.int .i64 97) (.string ⟨#[]⟩)
          have L1 := kept (L1.out.below tb)
          have M1 := kept (M1.out.below tb)
          have L2 := kept (L2.out.below tb)
          have M2 := kept (M2.out.below tb)
          have L3 := kept (L3.out.below tb)
          have M3 := kept (M3.out.below tb)
          have L4 := kept t1
          have M4 := kept t2
          have BB := kept (bthen Bn.out tb)
          clear t1 t2 tb
          obtain ⟨l10, l11, l12, _, _, _⟩ := L1.out.facts
          obtain ⟨m10, m11, m12, _, _, _⟩ := M1.out.facts
          obtain ⟨l20, l21, l22, _, _, _⟩ := L2.out.facts
          obtain ⟨m20, m21, m22, _, _, _⟩ := M2.out.facts
          obtain ⟨l30, l31, l32, _, _, _⟩ := L3.out.facts
          obtain ⟨m30, m31, m32, _, _, _⟩ := M3.out.facts
          obtain ⟨l40, l41, l42, _, _, _⟩ := L4.out.facts
          obtain ⟨m40, m41, m42, _, _, _⟩ := M4.out.facts
          have hd14 := diag_eq 14 16384 14 16384
          have hd3 := diag_eq 3 0 3 0
          have hd4 := diag_eq 4 97 4 97
          have hd7 := diag_eq 7 2 7 2
          go_wp2_with fail
          (with_reducible refine (Ha.out _ (Utf8Tabs_below HT.out BB.out)).mono ?_); rintro e w9 ⟨rfl, b9⟩
          have B9 := kept (bthen BB.out b9)
          clear b9
          go_wp2
          go_ret
          exact ⟨rfl, B9.out⟩
        · have hq4 : ¬ (32 : Int) < (n : Int) := by omega
          have Hq := kept (fun w hT => Hs4.out 0 0 (by rw [if_neg hcase4]) (by rw [if_neg hcase4]) w hT)
          clear hcase4
          go_wp2_with fail
          (with_reducible refine (Hq.out _ (Utf8Tabs_below HT.out Bn.out)).mono ?_); rintro e z4 ⟨⟨v4, rfl⟩, b1⟩
          have Bn := kept (bthen Bn.out b1)
          have L1 := kept (L1.out.below b1)
          have M1 := kept (M1.out.below b1)
          have L2 := kept (L2.out.below b1)
          have M2 := kept (M2.out.below b1)
          have L3 := kept (L3.out.below b1)
          have M3 := kept (M3.out.below b1)
          clear b1
          obtain ⟨t1, t2, tb⟩ := two_at z4 26 26 (.int .i64 0) (.int .i64 0) (.string ⟨#[]⟩) (.int .i64 0) (.int .i64 0) (.string ⟨#[]⟩)
          have L1 := kept (L1.out.below tb)
          have M1 := kept (M1.out.below tb)
          have L2 := kept (L2.out.below tb)
          have M2 := kept (M2.out.below tb)
          have L3 := kept (L3.out.below tb)
          have M3 := kept (M3.out.below tb)
          have L4 := kept t1
          have M4 := kept t2
          have BB := kept (bthen Bn.out tb)
          clear t1 t2 tb
          obtain ⟨l10, l11, l12, _, _, _⟩ := L1.out.facts
          obtain ⟨m10, m11, m12, _, _, _⟩ := M1.out.facts
          obtain ⟨l20, l21, l22, _, _, _⟩ := L2.out.facts
          obtain ⟨m20, m21, m22, _, _, _⟩ := M2.out.facts
          obtain ⟨l30, l31, l32, _, _, _⟩ := L3.out.facts
          obtain ⟨m30, m31, m32, _, _, _⟩ := M3.out.facts
          obtain ⟨l40, l41, l42, _, _, _⟩ := L4.out.facts
          obtain ⟨m40, m41, m42, _, _, _⟩ := M4.out.facts
          have hd0 := diag_eq 0 0 0 0
          have hd14 := diag_eq 14 16384 14 16384
          have hd3 := diag_eq 3 0 3 0
          have hd7 := diag_eq 7 2 7 2
          go_wp2_with fail
          (with_reducible refine (Ha.out _ (Utf8Tabs_below HT.out BB.out)).mono ?_); rintro e w9 ⟨rfl, b9⟩
          have B9 := kept (bthen BB.out b9)
          clear b9
          go_wp2
          go_ret
          exact ⟨rfl, B9.out⟩
      · have hq3 : ¬ (64 : Int) < (c : Int) := by omega
        have Hq := kept (fun w hT => Hs3.out 0 0 (by rw [if_neg hcase3]) (by rw [if_neg hcase3]) w hT)
        clear hcase3
        go_wp2_with fail
        (with_reducible refine (Hq.out _ (Utf8Tabs_below HT.out Bn.out)).mono ?_); rintro e z3 ⟨⟨v3, rfl⟩, b1⟩
        have Bn := kept (bthen Bn.out b1)
        have L1 := kept (L1.out.below b1)
        have M1 := kept (M1.out.below b1)
        have L2 := kept (L2.out.below b1)
        have M2 := kept (M2.out.below b1)
        clear b1
        obtain ⟨t1, t2, tb⟩ := two_at z3 26 26 (.int .i64 0) (.int .i64 0) (.string ⟨#[]⟩) (.int .i64 0) (.int .i64 0) (.string ⟨#[]⟩)
        have L1 := kept (L1.out.below tb)
        have M1 := kept (M1.out.below tb)
        have L2 := kept (L2.out.below tb)
        have M2 := kept (M2.out.below tb)
        have L3 := kept t1
        have M3 := kept t2
        have BB := kept (bthen Bn.out tb)
        clear t1 t2 tb
        go_wp2_with fail
        (with_reducible refine (Hr4.out _).mono ?_); rintro e u1 ⟨rfl, b1⟩
        have Bn := kept (bthen BB.out b1)
        have L1 := kept (L1.out.below b1)
        have M1 := kept (M1.out.below b1)
        have L2 := kept (L2.out.below b1)
        have M2 := kept (M2.out.below b1)
        have L3 := kept (L3.out.below b1)
        have M3 := kept (M3.out.below b1)
        clear b1
        go_wp2_with fail
        (with_reducible refine (Hr5.out _).mono ?_); rintro e u2 ⟨rfl, b1⟩
        have Bn := kept (bthen Bn.out b1)
        have L1 := kept (L1.out.below b1)
        have M1 := kept (M1.out.below b1)
        have L2 := kept (L2.out.below b1)
        have M2 := kept (M2.out.below b1)
        have L3 := kept (L3.out.below b1)
        have M3 := kept (M3.out.below b1)
        clear b1
        by_cases hcase4 : 32 < n
        · have hq4 : (32 : Int) < (n : Int) := by omega
          have Hq := kept (fun w hT => Hs4.out 4 97 (by rw [if_pos hcase4]) (by rw [if_pos hcase4]) w hT)
          clear hcase4
          go_wp2_with fail
          (with_reducible refine (Hq.out _ (Utf8Tabs_below HT.out Bn.out)).mono ?_); rintro e z4 ⟨⟨v4, rfl⟩, b1⟩
          have Bn := kept (bthen Bn.out b1)
          have L1 := kept (L1.out.below b1)
          have M1 := kept (M1.out.below b1)
          have L2 := kept (L2.out.below b1)
          have M2 := kept (M2.out.below b1)
          have L3 := kept (L3.out.below b1)
          have M3 := kept (M3.out.below b1)
          clear b1
          obtain ⟨t1, t2, tb⟩ := two_at z4 26 26 (.int .i64 4) (.int .i64 97) (.string ⟨#[]⟩) (.int .i64 4) (.int .i64 97) (.string ⟨#[]⟩)
          have L1 := kept (L1.out.below tb)
          have M1 := kept (M1.out.below tb)
          have L2 := kept (L2.out.below tb)
          have M2 := kept (M2.out.below tb)
          have L3 := kept (L3.out.below tb)
          have M3 := kept (M3.out.below tb)
          have L4 := kept t1
          have M4 := kept t2
          have BB := kept (bthen Bn.out tb)
          clear t1 t2 tb
          obtain ⟨l10, l11, l12, _, _, _⟩ := L1.out.facts
          obtain ⟨m10, m11, m12, _, _, _⟩ := M1.out.facts
          obtain ⟨l20, l21, l22, _, _, _⟩ := L2.out.facts
          obtain ⟨m20, m21, m22, _, _, _⟩ := M2.out.facts
          obtain ⟨l30, l31, l32, _, _, _⟩ := L3.out.facts
          obtain ⟨m30, m31, m32, _, _, _⟩ := M3.out.facts
          obtain ⟨l40, l41, l42, _, _, _⟩ := L4.out.facts
          obtain ⟨m40, m41, m42, _, _, _⟩ := M4.out.facts
          have hd0 := diag_eq 0 0 0 0
          have hd14 := diag_eq 14 16384 14 16384
          have hd3 := diag_eq 3 0 3 0
          have hd4 := diag_eq 4 97 4 97
          go_wp2_with fail
          (with_reducible refine (Ha.out _ (Utf8Tabs_below HT.out BB.out)).mono ?_); rintro e w9 ⟨rfl, b9⟩
          have B9 := kept (bthen BB.out b9)
          clear b9
          go_wp2
          go_ret
          exact ⟨rfl, B9.out⟩
        · have hq4 : ¬ (32 : Int) < (n : Int) := by omega
          have Hq := kept (fun w hT => Hs4.out 0 0 (by rw [if_neg hcase4]) (by rw [if_neg hcase4]) w hT)
          clear hcase4
          go_wp2_with fail
          (with_reducible refine (Hq.out _ (Utf8Tabs_below HT.out Bn.out)).mono ?_); rintro e z4 ⟨⟨v4, rfl⟩, b1⟩
          have Bn := kept (bthen Bn.out b1)
          have L1 := kept (L1.out.below b1)
          have M1 := kept (M1.out.below b1)
          have L2 := kept (L2.out.below b1)
          have M2 := kept (M2.out.below b1)
          have L3 := kept (L3.out.below b1)
          have M3 := kept (M3.out.below b1)
          clear b1
          obtain ⟨t1, t2, tb⟩ := two_at z4 26 26 (.int .i64 0) (.int .i64 0) (.string ⟨#[]⟩) (.int .i64 0) (.int .i64 0) (.string ⟨#[]⟩)
          have L1 := kept (L1.out.below tb)
          have M1 := kept (M1.out.below tb)
          have L2 := kept (L2.out.below tb)
          have M2 := kept (M2.out.below tb)
          have L3 := kept (L3.out.below tb)
          have M3 := kept (M3.out.below tb)
          have L4 := kept t1
          have M4 := kept t2
          have BB := kept (bthen Bn.out tb)
          clear t1 t2 tb
          obtain ⟨l10, l11, l12, _, _, _⟩ := L1.out.facts
          obtain ⟨m10, m11, m12, _, _, _⟩ := M1.out.facts
          obtain ⟨l20, l21, l22, _, _, _⟩ := L2.out.facts
          obtain ⟨m20, m21, m22, _, _, _⟩ := M2.out.facts
          obtain ⟨l30, l31, l32, _, _, _⟩ := L3.out.facts
          obtain ⟨m30, m31, m32, _, _, _⟩ := M3.out.facts
          obtain ⟨l40, l41, l42, _, _, _⟩ := L4.out.facts
          obtain ⟨m40, m41, m42, _, _, _⟩ := M4.out.facts
          have hd0 := diag_eq 0 0 0 0
          have hd14 := diag_eq 14 16384 14 16384
          have hd3 := diag_eq 3 0 3 0
          go_wp2_with fail
          (with_reducible refine (Ha.out _ (Utf8Tabs_below HT.out BB.out)).mono ?_); rintro e w9 ⟨rfl, b9⟩
          have B9 := kept (bthen BB.out b9)
          clear b9
          go_wp2
          go_ret
          exact ⟨rfl, B9.out⟩
    · have hq2 : ¬ (16384 : Int) ≤ 16382 + (b : Int) := by omega
      have Hq := kept (fun w hT => Hs2.out 0 0 (by rw [if_neg hcase2]) (by rw [if_neg hcase2]) w hT)
      clear hcase2
      go_wp2_with fail
      (with_reducible refine (Hq.out _ (Utf8Tabs_below HT.out Bn.out)).mono ?_); rintro e z2 ⟨⟨v2, rfl⟩, b1⟩
      have Bn := kept (bthen Bn.out b1)
      have L1 := kept (L1.out.below b1)
      have M1 := kept (M1.out.below b1)
      clear b1
      obtain ⟨t1, t2, tb⟩ := two_at z2 26 26 (.int .i64 0) (.int .i64 0) (.string ⟨#[]⟩) (.int .i64 0) (.int .i64 0) (.string ⟨#[]⟩)
      have L1 := kept (L1.out.below tb)
      have M1 := kept (M1.out.below tb)
      have L2 := kept t1
      have M2 := kept t2
      have BB := kept (bthen Bn.out tb)
      clear t1 t2 tb
      go_wp2_with fail
      (with_reducible refine (Hr3.out _).mono ?_); rintro e u1 ⟨rfl, b1⟩
      have Bn := kept (bthen BB.out b1)
      have L1 := kept (L1.out.below b1)
      have M1 := kept (M1.out.below b1)
      have L2 := kept (L2.out.below b1)
      have M2 := kept (M2.out.below b1)
      clear b1
      by_cases hcase3 : 64 < c
      · have hq3 : (64 : Int) < (c : Int) := by omega
        have Hq := kept (fun w hT => Hs3.out 7 2 (by rw [if_pos hcase3]) (by rw [if_pos hcase3]) w hT)
        clear hcase3
        go_wp2_with fail
        (with_reducible refine (Hq.out _ (Utf8Tabs_below HT.out Bn.out)).mono ?_); rintro e z3 ⟨⟨v3, rfl⟩, b1⟩
        have Bn := kept (bthen Bn.out b1)
        have L1 := kept (L1.out.below b1)
        have M1 := kept (M1.out.below b1)
        have L2 := kept (L2.out.below b1)
        have M2 := kept (M2.out.below b1)
        clear b1
        obtain ⟨t1, t2, tb⟩ := two_at z3 26 26 (.int .i64 7) (.int .i64 2) (.string ⟨#[]⟩) (.int .i64 7) (.int .i64 2) (.string ⟨#[]⟩)
        have L1 := kept (L1.out.below tb)
        have M1 := kept (M1.out.below tb)
        have L2 := kept (L2.out.below tb)
        have M2 := kept (M2.out.below tb)
        have L3 := kept t1
        have M3 := kept t2
        have BB := kept (bthen Bn.out tb)
        clear t1 t2 tb
        go_wp2_with fail
        (with_reducible refine (Hr4.out _).mono ?_); rintro e u1 ⟨rfl, b1⟩
        have Bn := kept (bthen BB.out b1)
        have L1 := kept (L1.out.below b1)
        have M1 := kept (M1.out.below b1)
        have L2 := kept (L2.out.below b1)
        have M2 := kept (M2.out.below b1)
        have L3 := kept (L3.out.below b1)
        have M3 := kept (M3.out.below b1)
        clear b1
        go_wp2_with fail
        (with_reducible refine (Hr5.out _).mono ?_); rintro e u2 ⟨rfl, b1⟩
        have Bn := kept (bthen Bn.out b1)
        have L1 := kept (L1.out.below b1)
        have M1 := kept (M1.out.below b1)
        have L2 := kept (L2.out.below b1)
        have M2 := kept (M2.out.below b1)
        have L3 := kept (L3.out.below b1)
        have M3 := kept (M3.out.below b1)
        clear b1
        by_cases hcase4 : 32 < n
        · have hq4 : (32 : Int) < (n : Int) := by omega
          have Hq := kept (fun w hT => Hs4.out 4 97 (by rw [if_pos hcase4]) (by rw [if_pos hcase4]) w hT)
          clear hcase4
          go_wp2_with fail
          (with_reducible refine (Hq.out _ (Utf8Tabs_below HT.out Bn.out)).mono ?_); rintro e z4 ⟨⟨v4, rfl⟩, b1⟩
          have Bn := kept (bthen Bn.out b1)
          have L1 := kept (L1.out.below b1)
          have M1 := kept (M1.out.below b1)
          have L2 := kept (L2.out.below b1)
          have M2 := kept (M2.out.below b1)
          have L3 := kept (L3.out.below b1)
          have M3 := kept (M3.out.below b1)
          clear b1
          obtain ⟨t1, t2, tb⟩ := two_at z4 26 26 (.int .i64 4) (.int .i64 97) (.string ⟨#[]⟩) (.int .i64 4) (.int .i64 97) (.string ⟨#[]⟩)
          have L1 := kept (L1.out.below tb)
          have M1 := kept (M1.out.below tb)
          have L2 := kept (L2.out.below tb)
          have M2 := kept (M2.out.below tb)
          have L3 := kept (L3.out.below tb)
          have M3 := kept (M3.out.below tb)
          have L4 := kept t1
          have M4 := kept t2
          have BB := kept (bthen Bn.out tb)
          clear t1 t2 tb
          obtain ⟨l10, l11, l12, _, _, _⟩ := L1.out.facts
          obtain ⟨m10, m11, m12, _, _, _⟩ := M1.out.facts
          obtain ⟨l20, l21, l22, _, _, _⟩ := L2.out.facts
          obtain ⟨m20, m21, m22, _, _, _⟩ := M2.out.facts
          obtain ⟨l30, l31, l32, _, _, _⟩ := L3.out.facts
          obtain ⟨m30, m31, m32, _, _, _⟩ := M3.out.facts
          obtain ⟨l40, l41, l42, _, _, _⟩ := L4.out.facts
          obtain ⟨m40, m41, m42, _, _, _⟩ := M4.out.facts
          have hd0 := diag_eq 0 0 0 0
          have hd3 := diag_eq 3 0 3 0
          have hd4 := diag_eq 4 97 4 97
          have hd7 := diag_eq 7 2 7 2
          go_wp2_with fail
          (with_reducible refine (Ha.out _ (Utf8Tabs_below HT.out BB.out)).mono ?_); rintro e w9 ⟨rfl, b9⟩
          have B9 := kept (bthen BB.out b9)
          clear b9
          go_wp2
          go_ret
          exact ⟨rfl, B9.out⟩
        · have hq4 : ¬ (32 : Int) < (n : Int) := by omega
          have Hq := kept (fun w hT => Hs4.out 0 0 (by rw [if_neg hcase4]) (by rw [if_neg hcase4]) w hT)
          clear hcase4
          go_wp2_with fail
          (with_reducible refine (Hq.out _ (Utf8Tabs_below HT.out Bn.out)).mono ?_); rintro e z4 ⟨⟨v4, rfl⟩, b1⟩
          have Bn := kept (bthen Bn.out b1)
          have L1 := kept (L1.out.below b1)
          have M1 := kept (M1.out.below b1)
          have L2 := kept (L2.out.below b1)
          have M2 := kept (M2.out.below b1)
          have L3 := kept (L3.out.below b1)
          have M3 := kept (M3.out.below b1)
          clear b1
          obtain ⟨t1, t2, tb⟩ := two_at z4 26 26 (.int .i64 0) (.int .i64 0) (.string ⟨#[]⟩) (.int .i64 0) (.int .i64 0) (.string ⟨#[]⟩)
          have L1 := kept (L1.out.below tb)
          have M1 := kept (M1.out.below tb)
          have L2 := kept (L2.out.below tb)
          have M2 := kept (M2.out.below tb)
          have L3 := kept (L3.out.below tb)
          have M3 := kept (M3.out.below tb)
          have L4 := kept t1
          have M4 := kept t2
          have BB := kept (bthen Bn.out tb)
          clear t1 t2 tb
          obtain ⟨l10, l11, l12, _, _, _⟩ := L1.out.facts
          obtain ⟨m10, m11, m12, _, _, _⟩ := M1.out.facts
          obtain ⟨l20, l21, l22, _, _, _⟩ := L2.out.facts
          obtain ⟨m20, m21, m22, _, _, _⟩ := M2.out.facts
          obtain ⟨l30, l31, l32, _, _, _⟩ := L3.out.facts
          obtain ⟨m30, m31, m32, _, _, _⟩ := M3.out.facts
          obtain ⟨l40, l41, l42, _, _, _⟩ := L4.out.facts
          obtain ⟨m40, m41, m42, _, _, _⟩ := M4.out.facts
          have hd0 := diag_eq 0 0 0 0
          have hd3 := diag_eq 3 0 3 0
          have hd7 := diag_eq 7 2 7 2
          go_wp2_with fail
          (with_reducible refine (Ha.out _ (Utf8Tabs_below HT.out BB.out)).mono ?_); rintro e w9 ⟨rfl, b9⟩
          have B9 := kept (bthen BB.out b9)
          clear b9
          go_wp2
          go_ret
          exact ⟨rfl, B9.out⟩
      · have hq3 : ¬ (64 : Int) < (c : Int) := by omega
        have Hq := kept (fun w hT => Hs3.out 0 0 (by rw [if_neg hcase3]) (by rw [if_neg hcase3]) w hT)
        clear hcase3
        go_wp2_with fail
        (with_reducible refine (Hq.out _ (Utf8Tabs_below HT.out Bn.out)).mono ?_); rintro e z3 ⟨⟨v3, rfl⟩, b1⟩
        have Bn := kept (bthen Bn.out b1)
        have L1 := kept (L1.out.below b1)
        have M1 := kept (M1.out.below b1)
        have L2 := kept (L2.out.below b1)
        have M2 := kept (M2.out.below b1)
        clear b1
        obtain ⟨t1, t2, tb⟩ := two_at z3 26 26 (.int .i64 0) (.int .i64 0) (.string ⟨#[]⟩) (.int .i64 0) (.int .i64 0) (.string ⟨#[]⟩)
        have L1 := kept (L1.out.below tb)
        have M1 := kept (M1.out.below tb)
        have L2 := kept (L2.out.below tb)
        have M2 := kept (M2.out.below tb)
        have L3 := kept t1
        have M3 := kept t2
        have BB := kept (bthen Bn.out tb)
        clear t1 t2 tb
        go_wp2_with fail
        (with_reducible refine (Hr4.out _).mono ?_); rintro e u1 ⟨rfl, b1⟩
        have Bn := kept (bthen BB.out b1)
        have L1 := kept (L1.out.below b1)
        have M1 := kept (M1.out.below b1)
        have L2 := kept (L2.out.below b1)
        have M2 := kept (M2.out.below b1)
        have L3 := kept (L3.out.below b1)
        have M3 := kept (M3.out.below b1)
        clear b1
        go_wp2_with fail
        (with_reducible refine (Hr5.out _).mono ?_); rintro e u2 ⟨rfl, b1⟩
        have Bn := kept (bthen Bn.out b1)
        have L1 := kept (L1.out.below b1)
        have M1 := kept (M1.out.below b1)
        have L2 := kept (L2.out.below b1)
        have M2 := kept (M2.out.below b1)
        have L3 := kept (L3.out.below b1)
        have M3 := kept (M3.out.below b1)
        clear b1
        by_cases hcase4 : 32 < n
        · have hq4 : (32 : Int) < (n : Int) := by omega
          have Hq := kept (fun w hT => Hs4.out 4 97 (by rw [if_pos hcase4]) (by rw [if_pos hcase4]) w hT)
          clear hcase4
          go_wp2_with fail
          (with_reducible refine (Hq.out _ (Utf8Tabs_below HT.out Bn.out)).mono ?_); rintro e z4 ⟨⟨v4, rfl⟩, b1⟩
          have Bn := kept (bthen Bn.out b1)
          have L1 := kept (L1.out.below b1)
          have M1 := kept (M1.out.below b1)
          have L2 := kept (L2.out.below b1)
          have M2 := kept (M2.out.below b1)
          have L3 := kept (L3.out.below b1)
          have M3 := kept (M3.out.below b1)
          clear b1
          obtain ⟨t1, t2, tb⟩ := two_at z4 26 26 (.int .i64 4) (.int .i64 97) (.string ⟨#[]⟩) (.int .i64 4) (.int .i64 97) (.string ⟨#[]⟩)
          have L1 := kept (L1.out.below tb)
          have M1 := kept (M1.out.below tb)
          have L2 := kept (L2.out.below tb)
          have M2 := kept (M2.out.below tb)
          have L3 := kept (L3.out.below tb)
          have M3 := kept (M3.out.below tb)
          have L4 := kept t1
          have M4 := kept t2
          have BB := kept (bthen Bn.out tb)
          clear t1 t2 tb
          obtain ⟨l10, l11, l12, _, _, _⟩ := L1.out.facts
          obtain ⟨m10, m11, m12, _, _, _⟩ := M1.out.facts
          obtain ⟨l20, l21, l22, _, _, _⟩ := L2.out.facts
          obtain ⟨m20, m21, m22, _, _, _⟩ := M2.out.facts
          obtain ⟨l30, l31, l32, _, _, _⟩ := L3.out.facts
          obtain ⟨m30, m31, m32, _, _, _⟩ := M3.out.facts
          obtain ⟨l40, l41, l42, _, _, _⟩ := L4.out.facts
          obtain ⟨m40, m41, m42, _, _, _⟩ := M4.out.facts
          have hd0 := diag_eq 0 0 0 0
          have hd3 := diag_eq 3 0 3 0
          have hd4 := diag_eq 4 97 4 97
          go_wp2_with fail
          (with_reducible refine (Ha.out _ (Utf8Tabs_below HT.out BB.out)).mono ?_); rintro e w9 ⟨rfl, b9⟩
          have B9 := kept (bthen BB.out b9)
          clear b9
          go_wp2
          go_ret
          exact ⟨rfl, B9.out⟩
        · have hq4 : ¬ (32 : Int) < (n : Int) := by omega
          have Hq := kept (fun w hT => Hs4.out 0 0 (by rw [if_neg hcase4]) (by rw [if_neg hcase4]) w hT)
          clear hcase4
          go_wp2_with fail
          (with_reducible refine (Hq.out _ (Utf8Tabs_below HT.out Bn.out)).mono ?_); rintro e z4 ⟨⟨v4, rfl⟩, b1⟩
          have Bn := kept (bthen Bn.out b1)
          have L1 := kept (L1.out.below b1)
          have M1 := kept (M1.out.below b1)
          have L2 := kept (L2.out.below b1)
          have M2 := kept (M2.out.below b1)
          have L3 := kept (L3.out.below b1)
          have M3 := kept (M3.out.below b1)
          clear b1
          obtain ⟨t1, t2, tb⟩ := two_at z4 26 26 (.int .i64 0) (.int .i64 0) (.string ⟨#[]⟩) (.int .i64 0) (.int .i64 0) (.string ⟨#[]⟩)
          have L1 := kept (L1.out.below tb)
          have M1 := kept (M1.out.below tb)
          have L2 := kept (L2.out.below tb)
          have M2 := kept (M2.out.below tb)
          have L3 := kept (L3.out.below tb)
          have M3 := kept (M3.out.below tb)
          have L4 := kept t1
          have M4 := kept t2
          have BB := kept (bthen Bn.out tb)
          clear t1 t2 tb
          obtain ⟨l10, l11, l12, _, _, _⟩ := L1.out.facts
          obtain ⟨m10, m11, m12, _, _, _⟩ := M1.out.facts
          obtain ⟨l20, l21, l22, _, _, _⟩ := L2.out.facts
          obtain ⟨m20, m21, m22, _, _, _⟩ := M2.out.facts
          obtain ⟨l30, l31, l32, _, _, _⟩ := L3.out.facts
          obtain ⟨m30, m31, m32, _, _, _⟩ := M3.out.facts
          obtain ⟨l40, l41, l42, _, _, _⟩ := L4.out.facts
          obtain ⟨m40, m41, m42, _, _, _⟩ := M4.out.facts
          have hd0 := diag_eq 0 0 0 0
          have hd3 := diag_eq 3 0 3 0
          go_wp2_with fail
          (with_reducible refine (Ha.out _ (Utf8Tabs_below HT.out BB.out)).mono ?_); rintro e w9 ⟨rfl, b9⟩
          have B9 := kept (bthen BB.out b9)
          clear b9
          go_wp2
          go_ret
          exact ⟨rfl, B9.out⟩
  · have hq1 : ¬ 0 < x % 3 := by omega
    have hq1a : ¬ (0 : Int) < (a : Int) := by omega
    have hq1z : x % 3 = 0 := by omega
    have Hq := kept (fun w hT => Hs1.out 0 0 (by rw [if_neg hcase1]) rfl w hT)
    clear hcase1
    go_wp2_with fail
    (with_reducible refine (Hq.out _ (Utf8Tabs_below HT.out Bn.out)).mono ?_); rintro e z1 ⟨⟨v1, rfl⟩, b1⟩
    have Bn := kept (bthen Bn.out b1)
    clear b1
    obtain ⟨t1, t2, tb⟩ := two_at z1 26 26 (.int .i64 0) (.int .i64 0) (.string ⟨#[]⟩) (.int .i64 0) (.int .i64 0) (.string ⟨#[]⟩)
    have L1 := kept t1
    have M1 := kept t2
    have BB := kept (bthen Bn.out tb)
    clear t1 t2 tb
    go_wp2_with fail
    (with_reducible refine (Hr2.out _).mono ?_); rintro e u1 ⟨rfl, b1⟩
    have Bn := kept (bthen BB.out b1)
    have L1 := kept (L1.out.below b1)
    have M1 := kept (M1.out.below b1)
    clear b1
    by_cases hcase2 : 2 ≤ b
    · have hq2 : (16384 : Int) ≤ 16382 + (b : Int) := by omega
      have Hq := kept (fun w hT => Hs2.out 14 16384 (by rw [if_pos hcase2]) (by rw [if_pos hcase2]) w hT)
      clear hcase2
      go_wp2_with fail
      (with_reducible refine (Hq.out _ (Utf8Tabs_below HT.out Bn.out)).mono ?_); rintro e z2 ⟨⟨v2, rfl⟩, b1⟩
      have Bn := kept (bthen Bn.out b1)
      have L1 := kept (L1.out.below b1)
      have M1 := kept (M1.out.below b1)
      clear b1
      obtain ⟨t1, t2, tb⟩ := two_at z2 26 26 (.int .i64 14) (.int .i64 16384) (.string ⟨#[]⟩) (.int .i64 14) (.int .i64 16384) (.string ⟨#[]⟩)
      have L1 := kept (L1.out.below tb)
      have M1 := kept (M1.out.below tb)
      have L2 := kept t1
      have M2 := kept t2
      have BB := kept (bthen Bn.out tb)
      clear t1 t2 tb
      go_wp2_with fail
      (with_reducible refine (Hr3.out _).mono ?_); rintro e u1 ⟨rfl, b1⟩
      have Bn := kept (bthen BB.out b1)
      have L1 := kept (L1.out.below b1)
      have M1 := kept (M1.out.below b1)
      have L2 := kept (L2.out.below b1)
      have M2 := kept (M2.out.below b1)
      clear b1
      by_cases hcase3 : 64 < c
      · have hq3 : (64 : Int) < (c : Int) := by omega
        have Hq := kept (fun w hT => Hs3.out 7 2 (by rw [if_pos hcase3]) (by rw [if_pos hcase3]) w hT)
        clear hcase3
        go_wp2_with fail
        (with_reducible refine (Hq.out _ (Utf8Tabs_below HT.out Bn.out)).mono ?_); rintro e z3 ⟨⟨v3, rfl⟩, b1⟩
        have Bn := kept (bthen Bn.out b1)
        have L1 := kept (L1.out.below b1)
        have M1 := kept (M1.out.below b1)
        have L2 := kept (L2.out.below b1)
        have M2 := kept (M2.out.below b1)
        clear b1
        obtain ⟨t1, t2, tb⟩ := two_at z3 26 26 (.int .i64 7) (.int .i64 2) (.string ⟨#[]⟩) (.int .i64 7) (.int .i64 2) (.string ⟨#[]⟩)
        have L1 := kept (L1.out.below tb)
        have M1 := kept (M1.out.below tb)
        have L2 := kept (L2.out.below tb)
        have M2 := kept (M2.out.below tb)
        have L3 := kept t1
        have M3 := kept t2
        have BB := kept (bthen Bn.out tb)
        clear t1 t2 tb
        go_wp2_with fail
        (with_reducible refine (Hr4.out _).mono ?_); rintro e u1 ⟨rfl, b1⟩
        have Bn := kept (bthen BB.out b1)
        have L1 := kept (L1.out.below b1)
        have M1 := kept (M1.out.below b1)
        have L2 := kept (L2.out.below b1)
        have M2 := kept (M2.out.below b1)
        have L3 := kept (L3.out.below b1)
        have M3 := kept (M3.out.below b1)
        clear b1
        go_wp2_with fail
        (with_reducible refine (Hr5.out _).mono ?_); rintro e u2 ⟨rfl, b1⟩
        have Bn := kept (bthen Bn.out b1)
        have L1 := kept (L1.out.below b1)
        have M1 := kept (M1.out.below b1)
        have L2 := kept (L2.out.below b1)
        have M2 := kept (M2.out.below b1)
        have L3 := kept (L3.out.below b1)
        have M3 := kept (M3.out.below b1)
        clear b1
        by_cases hcase4 : 32 < n
        · have hq4 : (32 : Int) < (n : Int) := by omega
          have Hq := kept (fun w hT => Hs4.out 4 97 (by rw [if_pos hcase4]) (by rw [if_pos hcase4]) w hT)
          clear hcase4
          go_wp2_with fail
          (with_reducible refine (Hq.out _ (Utf8Tabs_below HT.out Bn.out)).mono ?_); rintro e z4 ⟨⟨v4, rfl⟩, b1⟩
          have Bn := kept (bthen Bn.out b1)
          have L1 := kept (L1.out.below b1)
          have M1 := kept (M1.out.below b1)
          have L2 := kept (L2.out.below b1)
          have M2 := kept (M2.out.below b1)
          have L3 := kept (L3.out.below b1)
          have M3 := kept (M3.out.below b1)
          clear b1
          obtain ⟨t1, t2, tb⟩ := two_at z4 26 26 (.int .i64 4) (.int .i64 97) (.string ⟨#[]⟩) (.int .i64 4) (.int .i64 97) (.string ⟨#[]⟩)
          have L1 := kept (L1.out.below tb)
          have M1 := kept (M1.out.below tb)
          have L2 := kept (L2.out.below tb)
          have M2 := kept (M2.out.below tb)
          have L3 := kept (L3.out.below tb)
          have M3 := kept (M3.out.below tb)
          have L4 := kept t1
          have M4 := kept t2
          have BB := kept (bthen Bn.out tb)
          clear t1 t2 tb
          obtain ⟨l10, l11, l12, _, _, _⟩ := L1.out.facts
          obtain ⟨m10, m11, m12, _, _, _⟩ := M1.out.facts
          obtain ⟨l20, l21, l22, _, _, _⟩ := L2.out.facts
          obtain ⟨m20, m21, m22, _, _, _⟩ := M2.out.facts
          obtain ⟨l30, l31, l32, _, _, _⟩ := L3.out.facts
          obtain ⟨m30, m31, m32, _, _, _⟩ := M3.out.facts
          obtain ⟨l40, l41, l42, _, _, _⟩ := L4.out.facts
          obtain ⟨m40, m41, m42, _, _, _⟩ := M4.out.facts
          have hd0 := diag_eq 0 0 0 0
          have hd14 := diag_eq 14 16384 14 16384
          have hd4 := diag_eq 4 97 4 97
          have hd7 := diag_eq 7 2 7 2
          go_wp2_with fail
          (with_reducible refine (Ha.out _ (Utf8Tabs_below HT.out BB.out)).mono ?_); rintro e w9 ⟨rfl, b9⟩
          have B9 := kept (bthen BB.out b9)
          clear b9
          go_wp2
          go_ret
          exact ⟨rfl, B9.out⟩
        · have hq4 : ¬ (32 : Int) < (n : Int) := by omega
          have Hq := kept (fun w hT => Hs4.out 0 0 (by rw [if_neg hcase4]) (by rw [if_neg hcase4]) w hT)
          clear hcase4
          go_wp2_with fail
          (with_reducible refine (Hq.out _ (Utf8Tabs_below HT.out Bn.out)).mono ?_); rintro e z4 ⟨⟨v4, rfl⟩, b1⟩
          have Bn := kept (bthen Bn.out b1)
          have L1 := kept (L1.out.below b1)
          have M1 := kept (M1.out.below b1)
          have L2 := kept (L2.out.below b1)
          have M2 := kept (M2.out.below b1)
          have L3 := kept (L3.out.below b1)
          have M3 := kept (M3.out.below b1)
          clear b1
          obtain ⟨t1, t2, tb⟩ := two_at z4 26 26 (.int .i64 0) (.int .i64 0) (.string ⟨#[]⟩) (.int .i64 0) (.int .i64 0) (.string ⟨#[]⟩)
          have L1 := kept (L1.out.below tb)
          have M1 := kept (M1.out.below tb)
          have L2 := kept (L2.out.below tb)
          have M2 := kept (M2.out.below tb)
          have L3 := kept (L3.out.below tb)
          have M3 := kept (M3.out.below tb)
          have L4 := kept t1
          have M4 := kept t2
          have BB := kept (bthen Bn.out tb)
          clear t1 t2 tb
          obtain ⟨l10, l11, l12, _, _, _⟩ := L1.out.facts
          obtain ⟨m10, m11, m12, _, _, _⟩ := M1.out.facts
          obtain ⟨l20, l21, l22, _, _, _⟩ := L2.out.facts
          obtain ⟨m20, m21, m22, _, _, _⟩ := M2.out.facts
          obtain ⟨l30, l31, l32, _, _, _⟩ := L3.out.facts
          obtain ⟨m30, m31, m32, _, _, _⟩ := M3.out.facts
          obtain ⟨l40, l41, l42, _, _, _⟩ := L4.out.facts
          obtain ⟨m40, m41, m42, _, _, _⟩ := M4.out.facts
          have hd0 := diag_eq 0 0 0 0
          have hd14 := diag_eq 14 16384 14 16384
          have hd7 := diag_eq 7 2 7 2
          go_wp2_with fail
          (with_reducible refine (Ha.out _ (Utf8Tabs_below HT.out BB.out)).mono ?_); rintro e w9 ⟨rfl, b9⟩
          have B9 := kept (bthen BB.out b9)
          clear b9
          go_wp2
          go_ret
          exact ⟨rfl, B9.out⟩
      · have hq3 : ¬ (64 : Int) < (c : Int) := by omega
        have Hq := kept (fun w hT => Hs3.out 0 0 (by rw [if_neg hcase3]) (by rw [if_neg hcase3]) w hT)
        clear hcase3
        go_wp2_with fail
        (with_reducible refine (Hq.out _ (Utf8Tabs_below HT.out Bn.out)).mono ?_); rintro e z3 ⟨⟨v3, rfl⟩, b1⟩
        have Bn := kept (bthen Bn.out b1)
        have L1 := kept (L1.out.below b1)
        have M1 := kept (M1.out.below b1)
        have L2 := kept (L2.out.below b1)
        have M2 := kept (M2.out.below b1)
        clear b1
        obtain ⟨t1, t2, tb⟩ := two_at z3 26 26 (.int .i64 0) (.int .i64 0) (.string ⟨#[]⟩) (.int .i64 0) (.int .i64 0) (.string ⟨#[]⟩)
        have L1 := kept (L1.out.below tb)
        have M1 := kept (M1.out.below tb)
        have L2 := kept (L2.out.below tb)
        have M2 := kept (M2.out.below tb)
        have L3 := kept t1
        have M3 := kept t2
        have BB := kept (bthen Bn.out tb)
        clear t1 t2 tb
        go_wp2_with fail
        (with_reducible refine (Hr4.out _).mono ?_); rintro e u1 ⟨rfl, b1⟩
        have Bn := kept (bthen BB.out b1)
        have L1 := kept (L1.out.below b1)
        have M1 := kept (M1.out.below b1)
        have L2 := kept (L2.out.below b1)
        have M2 := kept (M2.out.below b1)
        have L3 := kept (L3.out.below b1)
        have M3 := kept (M3.out.below b1)
        clear b1
        go_wp2_with fail
        (with_reducible refine (Hr5.out _).mono ?_); rintro e u2 ⟨rfl, b1⟩
        have Bn := kept (bthen Bn.out b1)
        have L1 := kept (L1.out.below b1)
        have M1 := kept (M1.out.below b1)
        have L2 := kept (L2.out.below b1)
        have M2 := kept (M2.out.below b1)
        have L3 := kept (L3.out.below b1)
        have M3 := kept (M3.out.below b1)
        clear b1
        by_cases hcase4 : 32 < n
        · have hq4 : (32 : Int) < (n : Int) := by omega
          have Hq := kept (fun w hT => Hs4.out 4 97 (by rw [if_pos hcase4]) (by rw [if_pos hcase4]) w hT)
          clear hcase4
          go_wp2_with fail
          (with_reducible refine (Hq.out _ (Utf8Tabs_below HT.out Bn.out)).mono ?_); rintro e z4 ⟨⟨v4, rfl⟩, b1⟩
          have Bn := kept (bthen Bn.out b1)
          have L1 := kept (L1.out.below b1)
          have M1 := kept (M1.out.below b1)
          have L2 := kept (L2.out.below b1)
          have M2 := kept (M2.out.below b1)
          have L3 := kept (L3.out.below b1)
          have M3 := kept (M3.out.below b1)
          clear b1
          obtain ⟨t1, t2, tb⟩ := two_at z4 26 26 (.int .i64 4) (.int .i64 97) (.string ⟨#[]⟩) (.int .i64 4) (.int .i64 97) (.string ⟨#[]⟩)
          have L1 := kept (L1.out.below tb)
          have M1 := kept (M1.out.below tb)
          have L2 := kept (L2.out.below tb)
          have M2 := kept (M2.out.below tb)
          have L3 := kept (L3.out.below tb)
          have M3 := kept (M3.out.below tb)
          have L4 := kept t1
          have M4 := kept t2
          have BB := kept (bthen Bn.out tb)
          clear t1 t2 tb
          obtain ⟨l10, l11, l12, _, _, _⟩ := L1.out.facts
          obtain ⟨m10, m11, m12, _, _, _⟩ := M1.out.facts
          obtain ⟨l20, l21, l22, _, _, _⟩ := L2.out.facts
          obtain ⟨m20, m21, m22, _, _, _⟩ := M2.out.facts
          obtain ⟨l30, l31, l32, _, _, _⟩ := L3.out.facts
          obtain ⟨m30, m31, m32, _, _, _⟩ := M3.out.facts
          obtain ⟨l40, l41, l42, _, _, _⟩ := L4.out.facts
          obtain ⟨m40, m41, m42, _, _, _⟩ := M4.out.facts
          have hd0 := diag_eq 0 0 0 0
          have hd14 := diag_eq 14 16384 14 16384
          have hd4 := diag_eq 4 97 4 97
          go_wp2_with fail
          (with_reducible refine (Ha.out _ (Utf8Tabs_below HT.out BB.out)).mono ?_); rintro e w9 ⟨rfl, b9⟩
          have B9 := kept (bthen BB.out b9)
          clear b9
          go_wp2
          go_ret
          exact ⟨rfl, B9.out⟩
        · have hq4 : ¬ (32 : Int) < (n : Int) := by omega
          have Hq := kept (fun w hT => Hs4.out 0 0 (by rw [if_neg hcase4]) (by rw [if_neg hcase4]) w hT)
          clear hcase4
          go_wp2_with fail
          (with_reducible refine (Hq.out _ (Utf8Tabs_below HT.out Bn.out)).mono ?_); rintro e z4 ⟨⟨v4, rfl⟩, b1⟩
          have Bn := kept (bthen Bn.out b1)
          have L1 := kept (L1.out.below b1)
          have M1 := kept (M1.out.below b1)
          have L2 := kept (L2.out.below b1)
          have M2 := kept (M2.out.below b1)
          have L3 := kept (L3.out.below b1)
          have M3 := kept (M3.out.below b1)
          clear b1
          obtain ⟨t1, t2, tb⟩ := two_at z4 26 26 (.int .i64 0) (.int .i64 0) (.string ⟨#[]⟩) (.int .i64 0) (.int .i64 0) (.string ⟨#[]⟩)
          have L1 := kept (L1.out.below tb)
          have M1 := kept (M1.out.below tb)
          have L2 := kept (L2.out.below tb)
          have M2 := kept (M2.out.below tb)
          have L3 := kept (L3.out.below tb)
          have M3 := kept (M3.out.below tb)
          have L4 := kept t1
          have M4 := kept t2
          have BB := kept (bthen Bn.out tb)
          clear t1 t2 tb
          obtain ⟨l10, l11, l12, _, _, _⟩ := L1.out.facts
          obtain ⟨m10, m11, m12, _, _, _⟩ := M1.out.facts
          obtain ⟨l20, l21, l22, _, _, _⟩ := L2.out.facts
          obtain ⟨m20, m21, m22, _, _, _⟩ := M2.out.facts
          obtain ⟨l30, l31, l32, _, _, _⟩ := L3.out.facts
          obtain ⟨m30, m31, m32, _, _, _⟩ := M3.out.facts
          obtain ⟨l40, l41, l42, _, _, _⟩ := L4.out.facts
          obtain ⟨m40, m41, m42, _, _, _⟩ := M4.out.facts
          have hd0 := diag_eq 0 0 0 0
          have hd14 := diag_eq 14 16384 14 16384
          go_wp2_with fail
          (with_reducible refine (Ha.out _ (Utf8Tabs_below HT.out BB.out)).mono ?_); rintro e w9 ⟨rfl, b9⟩
          have B9 := kept (bthen BB.out b9)
          clear b9
          go_wp2
          go_ret
          exact ⟨rfl, B9.out⟩
    · have hq2 : ¬ (16384 : Int) ≤ 16382 + (b : Int) := by omega
      have Hq := kept (fun w hT => Hs2.out 0 0 (by rw [if_neg hcase2]) (by rw [if_neg hcase2]) w hT)
      clear hcase2
      go_wp2_with fail
      (with_reducible refine (Hq.out _ (Utf8Tabs_below HT.out Bn.out)).mono ?_); rintro e z2 ⟨⟨v2, rfl⟩, b1⟩
      have Bn := kept (bthen Bn.out b1)
      have L1 := kept (L1.out.below b1)
      have M1 := kept (M1.out.below b1)
      clear b1
      obtain ⟨t1, t2, tb⟩ := two_at z2 26 26 (.int .i64 0) (.int .i64 0) (.string ⟨#[]⟩) (.int .i64 0) (.int .i64 0) (.string ⟨#[]⟩)
      have L1 := kept (L1.out.below tb)
      have M1 := kept (M1.out.below tb)
      have L2 := kept t1
      have M2 := kept t2
      have BB := kept (bthen Bn.out tb)
      clear t1 t2 tb
      go_wp2_with fail
      (with_reducible refine (Hr3.out _).mono ?_); rintro e u1 ⟨rfl, b1⟩
      have Bn := kept (bthen BB.out b1)
      have L1 := kept (L1.out.below b1)
      have M1 := kept (M1.out.below b1)
      have L2 := kept (L2.out.below b1)
      have M2 := kept (M2.out.below b1)
      clear b1
      by_cases hcase3 : 64 < c
      · have hq3 : (64 : Int) < (c : Int) := by omega
        have Hq := kept (fun w hT => Hs3.out 7 2 (by rw [if_pos hcase3]) (by rw [if_pos hcase3]) w hT)
        clear hcase3
        go_wp2_with fail
        (with_reducible refine (Hq.out _ (Utf8Tabs_below HT.out Bn.out)).mono ?_); rintro e z3 ⟨⟨v3, rfl⟩, b1⟩
        have Bn := kept (bthen Bn.out b1)
        have L1 := kept (L1.out.below b1)
        have M1 := kept (M1.out.below b1)
        have L2 := kept (L2.out.below b1)
        have M2 := kept (M2.out.below b1)
        clear b1
        obtain ⟨t1, t2, tb⟩ := two_at z3 26 26 (.int .i64 7) (.int .i64 2) (.string ⟨#[]⟩) (.int .i64 7) (.int .i64 2) (.string ⟨#[]⟩)
        have L1 := kept (L1.out.below tb)
        have M1 := kept (M1.out.below tb)
        have L2 := kept (L2.out.below tb)
        have M2 := kept (M2.out.below tb)
        have L3 := kept t1
        have M3 := kept t2
        have BB := kept (bthen Bn.out tb)
        clear t1 t2 tb
        go_wp2_with fail
        (with_reducible refine (Hr4.out _).mono ?_); rintro e u1 ⟨rfl, b1⟩
        have Bn := kept (bthen BB.out b1)
        have L1 := kept (L1.out.below b1)
        have M1 := kept (M1.out.below b1)
        have L2 := kept (L2.out.below b1)
        have M2 := kept (M2.out.below b1)
        have L3 := kept (L3.out.below b1)
        have M3 := kept (M3.out.below b1)
        clear b1
        go_wp2_with fail
        (with_reducible refine (Hr5.out _).mono ?_); rintro e u2 ⟨rfl, b1⟩
        have Bn := kept (bthen Bn.out b1)
        have L1 := kept (L1.out.below b1)
        have M1 := kept (M1.out.below b1)
        have L2 := kept (L2.out.below b1)
        have M2 := kept (M2.out.below b1)
        have L3 := kept (L3.out.below b1)
        have M3 := kept (M3.out.below b1)
        clear b1
        by_cases hcase4 : 32 < n
        · have hq4 : (32 : Int) < (n : Int) := by omega
          have Hq := kept (fun w hT => Hs4.out 4 97 (by rw [if_pos hcase4]) (by rw [if_pos hcase4]) w hT)
          clear hcase4
          go_wp2_with fail
          (with_reducible refine (Hq.out _ (Utf8Tabs_below HT.out Bn.out)).mono ?_); rintro e z4 ⟨⟨v4, rfl⟩, b1⟩
          have Bn := kept (bthen Bn.out b1)
          have L1 := kept (L1.out.below b1)
          have M1 := kept (M1.out.below b1)
          have L2 := kept (L2.out.below b1)
          have M2 := kept (M2.out.below b1)
          have L3 := kept (L3.out.below b1)
          have M3 := kept (M3.out.below b1)
          clear b1
          obtain ⟨t1, t2, tb⟩ := two_at z4 26 26 (.int .i64 4) (.int .i64 97) (.string ⟨#[]⟩) (.int .i64 4) (.int .i64 97) (.string ⟨#[]⟩)
          have L1 := kept (L1.out.below tb)
          have M1 := kept (M1.out.below tb)
          have L2 := kept (L2.out.below tb)
          have M2 := kept (M2.out.below tb)
          have L3 := kept (L3.out.below tb)
          have M3 := kept (M3.out.below tb)
          have L4 := kept t1
          have M4 := kept t2
          have BB := kept (bthen Bn.out tb)
          clear t1 t2 tb
          obtain ⟨l10, l11, l12, _, _, _⟩ := L1.out.facts
          obtain ⟨m10, m11, m12, _, _, _⟩ := M1.out.facts
          obtain ⟨l20, l21, l22, _, _, _⟩ := L2.out.facts
          obtain ⟨m20, m21, m22, _, _, _⟩ := M2.out.facts
          obtain ⟨l30, l31, l32, _, _, _⟩ := L3.out.facts
          obtain ⟨m30, m31, m32, _, _, _⟩ := M3.out.facts
          obtain ⟨l40, l41, l42, _, _, _⟩ := L4.out.facts
          obtain ⟨m40, m41, m42, _, _, _⟩ := M4.out.facts
          have hd0 := diag_eq 0 0 0 0
          have hd4 := diag_eq 4 97 4 97
          have hd7 := diag_eq 7 2 7 2
          go_wp2_with fail
          (with_reducible refine (Ha.out _ (Utf8Tabs_below HT.out BB.out)).mono ?_); rintro e w9 ⟨rfl, b9⟩
          have B9 := kept (bthen BB.out b9)
          clear b9
          go_wp2
          go_ret
          exact ⟨rfl, B9.out⟩
        · have hq4 : ¬ (32 : Int) < (n : Int) := by omega
          have Hq := kept (fun w hT => Hs4.out 0 0 (by rw [if_neg hcase4]) (by rw [if_neg hcase4]) w hT)
          clear hcase4
          go_wp2_with fail
          (with_reducible refine (Hq.out _ (Utf8Tabs_below HT.out Bn.out)).mono ?_); rintro e z4 ⟨⟨v4, rfl⟩, b1⟩
          have Bn := kept (bthen Bn.out b1)
          have L1 := kept (L1.out.below b1)
          have M1 := kept (M1.out.below b1)
          have L2 := kept (L2.out.below b1)
          have M2 := kept (M2.out.below b1)
          have L3 := kept (L3.out.below b1)
          have M3 := kept (M3.out.below b1)
          clear b1
          obtain ⟨t1, t2, tb⟩ := two_at z4 26 26 (.int .i64 0) (.int .i64 0) (.string ⟨#[]⟩) (.int .i64 0) (.int .i64 0) (.string ⟨#[]⟩)
          have L1 := kept (L1.out.below tb)
          have M1 := kept (M1.out.below tb)
          have L2 := kept (L2.out.below tb)
          have M2 := kept (M2.out.below tb)
          have L3 := kept (L3.out.below tb)
          have M3 := kept (M3.out.below tb)
          have L4 := kept t1
          have M4 := kept t2
          have BB := kept (bthen Bn.out tb)
          clear t1 t2 tb
          obtain ⟨l10, l11, l12, _, _, _⟩ := L1.out.facts
          obtain ⟨m10, m11, m12, _, _, _⟩ := M1.out.facts
          obtain ⟨l20, l21, l22, _, _, _⟩ := L2.out.facts
          obtain ⟨m20, m21, m22, _, _, _⟩ := M2.out.facts
          obtain ⟨l30, l31, l32, _, _, _⟩ := L3.out.facts
          obtain ⟨m30, m31, m32, _, _, _⟩ := M3.out.facts
          obtain ⟨l40, l41, l42, _, _, _⟩ := L4.out.facts
          obtain ⟨m40, m41, m42, _, _, _⟩ := M4.out.facts
          have hd0 := diag_eq 0 0 0 0
          have hd7 := diag_eq 7 2 7 2
          go_wp2_with fail
          (with_reducible refine (Ha.out _ (Utf8Tabs_below HT.out BB.out)).mono ?_); rintro e w9 ⟨rfl, b9⟩
          have B9 := kept (bthen BB.out b9)
          clear b9
          go_wp2
          go_ret
          exact ⟨rfl, B9.out⟩
      · have hq3 : ¬ (64 : Int) < (c : Int) := by omega
        have Hq := kept (fun w hT => Hs3.out 0 0 (by rw [if_neg hcase3]) (by rw [if_neg hcase3]) w hT)
        clear hcase3
        go_wp2_with fail
        (with_reducible refine (Hq.out _ (Utf8Tabs_below HT.out Bn.out)).mono ?_); rintro e z3 ⟨⟨v3, rfl⟩, b1⟩
        have Bn := kept (bthen Bn.out b1)
        have L1 := kept (L1.out.below b1)
        have M1 := kept (M1.out.below b1)
        have L2 := kept (L2.out.below b1)
        have M2 := kept (M2.out.below b1)
        clear b1
        obtain ⟨t1, t2, tb⟩ := two_at z3 26 26 (.int .i64 0) (.int .i64 0) (.string ⟨#[]⟩) (.int .i64 0) (.int .i64 0) (.string ⟨#[]⟩)
        have L1 := kept (L1.out.below tb)
        have M1 := kept (M1.out.below tb)
        have L2 := kept (L2.out.below tb)
        have M2 := kept (M2.out.below tb)
        have L3 := kept t1
        have M3 := kept t2
        have BB := kept (bthen Bn.out tb)
        clear t1 t2 tb
        go_wp2_with fail
        (with_reducible refine (Hr4.out _).mono ?_); rintro e u1 ⟨rfl, b1⟩
        have Bn := kept (bthen BB.out b1)
        have L1 := kept (L1.out.below b1)
        have M1 := kept (M1.out.below b1)
        have L2 := kept (L2.out.below b1)
        have M2 := kept (M2.out.below b1)
        have L3 := kept (L3.out.below b1)
        have M3 := kept (M3.out.below b1)
        clear b1
        go_wp2_with fail
        (with_reducible refine (Hr5.out _).mono ?_); rintro e u2 ⟨rfl, b1⟩
        have Bn := kept (bthen Bn.out b1)
        have L1 := kept (L1.out.below b1)
        have M1 := kept (M1.out.below b1)
        have L2 := kept (L2.out.below b1)
        have M2 := kept (M2.out.below b1)
        have L3 := kept (L3.out.below b1)
        have M3 := kept (M3.out.below b1)
        clear b1
        by_cases hcase4 : 32 < n
        · have hq4 : (32 : Int) < (n : Int) := by omega
          have Hq := kept (fun w hT => Hs4.out 4 97 (by rw [if_pos hcase4]) (by rw [if_pos hcase4]) w hT)
          clear hcase4
          go_wp2_with fail
          (with_reducible refine (Hq.out _ (Utf8Tabs_below HT.out Bn.out)).mono ?_); rintro e z4 ⟨⟨v4, rfl⟩, b1⟩
          have Bn := kept (bthen Bn.out b1)
          have L1 := kept (L1.out.below b1)
          have M1 := kept (M1.out.below b1)
          have L2 := kept (L2.out.below b1)
          have M2 := kept (M2.out.below b1)
          have L3 := kept (L3.out.below b1)
          have M3 := kept (M3.out.below b1)
          clear b1
          obtain ⟨t1, t2, tb⟩ := two_at z4 26 26 (.int .i64 4) (.int .i64 97) (.string ⟨#[]⟩) (.int .i64 4) (.int .i64 97) (.string ⟨#[]⟩)
          have L1 := kept (L1.out.below tb)
          have M1 := kept (M1.out.below tb)
          have L2 := kept (L2.out.below tb)
          have M2 := kept (M2.out.below tb)
          have L3 := kept (L3.out.below tb)
          have M3 := kept (M3.out.below tb)
          have L4 := kept t1
          have M4 := kept t2
          have BB := kept (bthen Bn.out tb)
          clear t1 t2 tb
          obtain ⟨l10, l11, l12, _, _, _⟩ := L1.out.facts
          obtain ⟨m10, m11, m12, _, _, _⟩ := M1.out.facts
          obtain ⟨l20, l21, l22, _, _, _⟩ := L2.out.facts
          obtain ⟨m20, m21, m22, _, _, _⟩ := M2.out.facts
          obtain ⟨l30, l31, l32, _, _, _⟩ := L3.out.facts
          obtain ⟨m30, m31, m32, _, _, _⟩ := M3.out.facts
          obtain ⟨l40, l41, l42, _, _, _⟩ := L4.out.facts
          obtain ⟨m40, m41, m42, _, _, _⟩ := M4.out.facts
          have hd0 := diag_eq 0 0 0 0
          have hd4 := diag_eq 4 97 4 97
          go_wp2_with fail
          (with_reducible refine (Ha.out _ (Utf8Tabs_below HT.out BB.out)).mono ?_); rintro e w9 ⟨rfl, b9⟩
          have B9 := kept (bthen BB.out b9)
          clear b9
          go_wp2
          go_ret
          exact ⟨rfl, B9.out⟩
        · have hq4 : ¬ (32 : Int) < (n : Int) := by omega
          have Hq := kept (fun w hT => Hs4.out 0 0 (by rw [if_neg hcase4]) (by rw [if_neg hcase4]) w hT)
          clear hcase4
          go_wp2_with fail
          (with_reducible refine (Hq.out _ (Utf8Tabs_below HT.out Bn.out)).mono ?_); rintro e z4 ⟨⟨v4, rfl⟩, b1⟩
          have Bn := kept (bthen Bn.out b1)
          have L1 := kept (L1.out.below b1)
          have M1 := kept (M1.out.below b1)
          have L2 := kept (L2.out.below b1)
          have M2 := kept (M2.out.below b1)
          have L3 := kept (L3.out.below b1)
          have M3 := kept (M3.out.below b1)
          clear b1
          obtain ⟨t1, t2, tb⟩ := two_at z4 26 26 (.int .i64 0) (.int .i64 0) (.string ⟨#[]⟩) (.int .i64 0) (.int .i64 0) (.string ⟨#[]⟩)
          have L1 := kept (L1.out.below tb)
          have M1 := kept (M1.out.below tb)
          have L2 := kept (L2.out.below tb)
          have M2 := kept (M2.out.below tb)
          have L3 := kept (L3.out.below tb)
          have M3 := kept (M3.out.below tb)
          have L4 := kept t1
          have M4 := kept t2
          have BB := kept (bthen Bn.out tb)
          clear t1 t2 tb
          obtain ⟨l10, l11, l12, _, _, _⟩ := L1.out.facts
          obtain ⟨m10, m11, m12, _, _, _⟩ := M1.out.facts
          obtain ⟨l20, l21, l22, _, _, _⟩ := L2.out.facts
          obtain ⟨m20, m21, m22, _, _, _⟩ := M2.out.facts
          obtain ⟨l30, l31, l32, _, _, _⟩ := L3.out.facts
          obtain ⟨m30, m31, m32, _, _, _⟩ := M3.out.facts
          obtain ⟨l40, l41, l42, _, _, _⟩ := L4.out.facts
          obtain ⟨m40, m41, m42, _, _, _⟩ := M4.out.facts
          have hd0 := diag_eq 0 0 0 0
          go_wp2_with fail
          (with_reducible refine (Ha.out _ (Utf8Tabs_below HT.out BB.out)).mono ?_); rintro e w9 ⟨rfl, b9⟩
          have B9 := kept (bthen BB.out b9)
          clear b9
          go_wp2
          go_ret
          exact ⟨rfl, B9.out⟩
end Go.Proofs.YtbpaeglmanjbfaaDoor
