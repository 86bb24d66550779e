/- Part of what the proof needs. -/
import Derived.Test.YtkhhnkceiibmfaaGreatDoorMFrStoreKeepsN
namespace Go.Proofs.YtkhhnkceiibmfaaGreatDoor
open Go.RowKit
set_option linter.unusedSimpArgs false
set_option linter.unusedVariables false
set_option maxHeartbeats 4000000
namespace AX
open Sto
def c_keeps : AX.AFn := ⟨113, .seq (.reg false [⟨some 2, .mv (.c (.bool false)), none, []⟩]) (.seq (.reg false [⟨some 14, .call 26 [.c (.str [107]), .c (.str [120])], none, []⟩, ⟨some 13, .mv (.t 14), none, []⟩, ⟨some 15, .extract (.t 13) 0, none, []⟩, ⟨some 16, .extract (.t 13) 1, none, []⟩, ⟨some 3, .mv (.t 15), none, []⟩, ⟨some 4, .mv (.t 16), none, []⟩]) (.seq (.seq (.reg false [⟨some 17, .mv (.t 4), none, []⟩, ⟨some 18, .bin .neq (.t 17) (.c (.int .i64 0)), none, []⟩, ⟨some 19, .mv (.t 18), none, []⟩, ⟨some 20, .mv (.t 3), some (19, false), []⟩, ⟨some 21, .eq 1 [] false (.t 20) (.c (.nilp)), some (19, false), []⟩, ⟨some 22, .pick (.t 19) (.c (.bool true)) (.t 21), none, []⟩, ⟨some 23, .mv (.t 22), none, []⟩, ⟨some 24, .mv (.t 0), some (23, false), []⟩, ⟨some 25, .bin .gtr (.t 24) (.c (.int .u8 140)), some (23, false), []⟩, ⟨some 26, .pick (.t 23) (.c (.bool true)) (.t 25), none, []⟩]) (.cond (.t 26) (.seq (.reg false [⟨some 27, .mv (.t 4), none, []⟩, ⟨some 28, .bin .eql (.t 27) (.c (.int .i64 0)), none, []⟩, ⟨some 29, .mv (.t 28), none, []⟩, ⟨some 30, .mv (.t 3), some (29, true), []⟩, ⟨some 31, .eq 1 [] true (.t 30) (.c (.nilp)), some (29, true), []⟩, ⟨some 32, .pick (.t 29) (.t 31) (.c (.bool false)), none, []⟩, ⟨some 33, .mv (.t 32), none, []⟩, ⟨some 34, .call 27 [], some (33, true), []⟩, ⟨some 35, .pick (.t 33) (.t 34) (.c (.bool false)), none, []⟩, ⟨some 2, .mv (.t 35), none, []⟩]) (.ret)) (.skip))) (.seq (.seq (.reg false [⟨some 36, .mv (.t 3), none, []⟩, ⟨some 37, .call 28 [.t 36, .c (.str [97]), .c (.int .i64 1)], none, []⟩, ⟨some 38, .bin .neq (.t 37) (.c (.int .i64 0)), none, []⟩]) (.cond (.t 38) (.seq (.reg false [⟨some 2, .mv (.c (.bool false)), none, []⟩]) (.ret)) (.skip))) (.seq (.seq (.reg false [⟨some 5, .mv (.c (.int .i64 1)), none, []⟩]) (.block 0 (.loop (.seq (.seq (.reg false [⟨some 39, .mv (.t 5), none, []⟩, ⟨some 40, .mv (.t 0), none, []⟩, ⟨some 41, .conv .i64 (.t 40), none, []⟩, ⟨some 42, .bin .leq (.t 39) (.t 41), none, []⟩]) (.cond (.t 42) (.skip) (.exit 0))) (.seq (.block 1 (.seq (.reg false [⟨some 45, .mv (.t 3), none, []⟩, ⟨some 46, .mv (.t 5), none, []⟩, ⟨some 47, .build [.str [], .int .i64 0, .sl 0 .nil [], .sl 0 .nil [], .sl 0 .nil []] [(0, 1, .c (.str [120])), (1, 1, .t 46)], none, []⟩, ⟨some 48, .call 29 [.t 45, .c (.str [97]), .t 47], none, []⟩, ⟨some 49, .bin .neq (.t 48) (.c (.int .i64 0)), none, []⟩]) (.cond (.t 49) (.seq (.reg false [⟨some 2, .mv (.c (.bool false)), none, []⟩]) (.ret)) (.skip)))) (.reg false [⟨some 43, .mv (.t 5), none, []⟩, ⟨some 44, .bin .add (.t 43) (.c (.int .i64 1)), none, []⟩, ⟨some 5, .mv (.t 44), none, []⟩])))))) (.seq (.reg false [⟨some 50, .mv (.t 3), none, []⟩, ⟨some 51, .call 30 [.t 50], none, []⟩, ⟨some 6, .mv (.t 51), none, []⟩]) (.seq (.reg false [⟨some 52, .mv (.t 0), none, []⟩, ⟨some 53, .conv .i64 (.t 52), none, []⟩, ⟨some 54, .bin .add (.t 53) (.c (.int .i64 1)), none, []⟩, ⟨some 55, .mv (.t 6), none, []⟩, ⟨some 56, .len false (.t 55), none, []⟩, ⟨some 57, .bin .sub (.t 54) (.t 56), none, []⟩, ⟨some 7, .mv (.t 57), none, []⟩]) (.seq (.seq (.reg false [⟨some 58, .mv (.t 6), none, []⟩, ⟨some 59, .len false (.t 58), none, []⟩, ⟨some 60, .mv (.t 0), none, []⟩, ⟨some 61, .conv .i64 (.t 60), none, []⟩, ⟨some 62, .bin .add (.t 61) (.c (.int .i64 1)), none, []⟩, ⟨some 63, .mm false (.t 62) (.c (.int .i64 64)), none, []⟩, ⟨some 64, .bin .neq (.t 59) (.t 63), none, []⟩]) (.cond (.t 64) (.seq (.reg false [⟨some 2, .mv (.c (.bool false)), none, []⟩]) (.ret)) (.skip))) (.seq (.seq (.reg false [⟨some 8, .mv (.c (.int .i64 0)), none, []⟩]) (.block 2 (.loop (.seq (.seq (.reg false [⟨some 65, .mv (.t 8), none, []⟩, ⟨some 66, .mv (.t 6), none, []⟩, ⟨some 67, .len false (.t 66), none, []⟩, ⟨some 68, .bin .lss (.t 65) (.t 67), none, []⟩]) (.cond (.t 68) (.skip) (.exit 2))) (.seq (.block 3 (.seq (.reg false [⟨some 72, .mv (.t 3), none, []⟩, ⟨some 73, .mv (.t 6), none, []⟩, ⟨some 74, .mv (.t 8), none, []⟩, ⟨some 75, .iaddr 1 (.t 73) (.t 74), none, []⟩, ⟨some 76, .load false 1 (.t 75), none, []⟩, ⟨some 77, .call 31 [.t 72, .t 76], none, []⟩, ⟨some 71, .mv (.t 77), none, []⟩, ⟨some 78, .extract (.t 71) 0, none, []⟩, ⟨some 79, .extract (.t 71) 1, none, []⟩, ⟨some 9, .alloc 26 [.str [], .int .i64 0, .sl 0 .nil [], .sl 0 .nil [], .sl 0 .nil []], none, []⟩, ⟨none, .store 5 (.t 9) (.t 78), none, []⟩, ⟨some 10, .mv (.t 79), none, []⟩]) (.seq (.reg true [⟨some 80, .mv (.t 6), none, []⟩, ⟨some 81, .mv (.t 8), none, []⟩, ⟨some 82, .iaddr 1 (.t 80) (.t 81), none, [0, 1]⟩, ⟨some 83, .load false 1 (.t 82), none, [2]⟩, ⟨some 84, .mv (.t 7), none, []⟩, ⟨some 85, .mv (.t 8), none, []⟩, ⟨some 86, .bin .add (.t 84) (.t 85), none, [4, 5]⟩, ⟨some 87, .bin .neq (.t 83) (.t 86), none, [3, 6]⟩, ⟨some 88, .mv (.t 87), none, [7]⟩, ⟨some 89, .mv (.t 10), some (88, false), [8]⟩, ⟨some 90, .bin .neq (.t 89) (.c (.int .i64 0)), some (88, false), [9, 8]⟩, ⟨some 91, .pick (.t 88) (.c (.bool true)) (.t 90), none, [8, 10]⟩, ⟨some 92, .mv (.t 91), none, [11, 8]⟩, ⟨some 93, .faddr 1 (.t 9), some (92, false), [12]⟩, ⟨some 94, .load false 1 (.t 93), some (92, false), [13, 12]⟩, ⟨some 95, .mv (.t 6), some (92, false), [12]⟩, ⟨some 96, .mv (.t 8), some (92, false), [12]⟩, ⟨some 97, .iaddr 1 (.t 95) (.t 96), some (92, false), [15, 16, 12]⟩, ⟨some 98, .load false 1 (.t 97), some (92, false), [17, 12]⟩, ⟨some 99, .bin .neq (.t 94) (.t 98), some (92, false), [14, 18, 12]⟩, ⟨some 100, .pick (.t 92) (.c (.bool true)) (.t 99), none, [12, 19]⟩]) (.cond (.t 100) (.seq (.reg false [⟨some 2, .mv (.c (.bool false)), none, []⟩]) (.ret)) (.skip))))) (.reg false [⟨some 69, .mv (.t 8), none, []⟩, ⟨some 70, .bin .add (.t 69) (.c (.int .i64 1)), none, []⟩, ⟨some 8, .mv (.t 70), none, []⟩])))))) (.seq (.reg false [⟨some 102, .mv (.t 3), none, []⟩, ⟨some 103, .mv (.t 7), none, []⟩, ⟨some 104, .bin .sub (.t 103) (.c (.int .i64 1)), none, []⟩, ⟨some 105, .call 31 [.t 102, .t 104], none, []⟩, ⟨some 101, .mv (.t 105), none, []⟩, ⟨some 106, .extract (.t 101) 0, none, []⟩, ⟨some 107, .extract (.t 101) 1, none, []⟩, ⟨some 11, .alloc 26 [.str [], .int .i64 0, .sl 0 .nil [], .sl 0 .nil [], .sl 0 .nil []], none, []⟩, ⟨none, .store 5 (.t 11) (.t 106), none, []⟩, ⟨some 12, .mv (.t 107), none, []⟩]) (.seq (.reg false [⟨some 108, .mv (.t 12), none, []⟩, ⟨some 109, .bin .eql (.t 108) (.c (.int .i64 9)), none, []⟩, ⟨some 110, .mv (.t 109), none, []⟩, ⟨some 111, .call 27 [], some (110, true), []⟩, ⟨some 112, .pick (.t 110) (.t 111) (.c (.bool false)), none, []⟩, ⟨some 2, .mv (.t 112), none, []⟩]) (.ret))))))))))), [.t 2]⟩
theorem h_keeps : AX.compFn Tryz.prog 7 = some c_keeps := by kernel_rfl

theorem at_any (i c : Nat) (hi : i ≤ 140) (n : Int) (h : Hp) (h0 : h.b[0]? = some (SW i c).M) (h1 : h.b[1]? = some (SW i c).B) : ACall Tryz.prog GT 31 [.ptr 1 0, .int .i64 n] h fun r h' => r = .tup [((SW i c).at' n).1.A, .int .i64 ((SW i c).at' n).2] ∧ h' = h := by
  obtain ⟨b, t⟩ := h
  match b, h0, h1 with
  | x :: y :: l, h0, h1 =>
    simp only [List.getElem?_cons_zero, List.getElem?_cons_succ, Option.some.injEq] at h0 h1
    subst h0; subst h1
    exact a_at (SW i c) l t n (show [_].length ≤ _ by decide) (fun b hb => find_len i c hi n b hb)
theorem w_keeps (n : Int) (h0 : 0 ≤ n) (h255 : n ≤ 255) : ACall Tryz.prog GT 7 [.int .u8 n] ⟨[], []⟩ fun r _ => r = .bool true := by
  refine acall_of mixedT h_keeps (by simp [c_keeps]) ?_
  dsimp only [c_keeps]
  have hw : IntKind.i64.wrap n = n := wrap64 (by omega) (by omega)
  by_cases h1 : n > 140
  · (refine AX.runM True.intro ?_)
    refine use new0 ?_
    (refine AX.runM h1 ?_)
    refine use (awake34 _) ?_
    (refine AX.runM True.intro ?_)
    exact ⟨_, le_refl _, rfl⟩
  obtain ⟨N, rfl⟩ : ∃ N : Nat, n = (N : Int) := ⟨n.toNat, by omega⟩
  obtain ⟨c0, hc0⟩ := w0_lock
  have cL := fun l t => a_lock w0 l t [97] (by decide) 1
  rw [hc0] at cL
  dsimp only at cL
  (refine AX.runM True.intro ?_)
  refine use new0 ?_
  (refine AX.runM h1 ?_)
  refine use (cL _ _) ?_
  (refine AX.runM True.intro ?_)
  refine awp_loop (fun mm ts h => ∃ (i c : Nat), mm + i = N ∧ h = ⟨[(SW i c).M, (SW i c).B], []⟩ ∧ ts 0 = .int .u8 (N : Int) ∧ ts 3 = .ptr 1 0 ∧ ts 5 = .int .i64 ((i : Int) + 1)) N ?_ ?_
  · exact ⟨0, c0, by omega, rfl, by (exact AX.ev0 True.intro), by (exact AX.ev0 True.intro), rfl⟩
  rintro mm ts h ⟨i, c, hi, rfl, t0, t3, t5⟩
  cases mm with
  | succ f =>
    have e1 : (i : Int) + 1 ≤ (N : Int) := by omega
    have ok := ok_of (n := ((i + 1 : Nat) : Int)) (by omega) (by omega)
    obtain ⟨c', hc'⟩ := step_w i (by omega) c
    have cW := fun l t => ACall.args (stX_le ((i + 1 : Nat) : Int) [97]) (a_swrite (SW i c) l t [97] (stX ((i + 1 : Nat) : Int)) (stX_in _) (show [_].length ≤ _ by decide) ok.el ok.es)
    rw [hc'] at cW
    dsimp only at cW
    have e2 : ((i + 1 : Nat) : Int) = (i : Int) + 1 := by omega
    rw [e2] at cW
    have w1 : IntKind.i64.wrap ((i : Int) + 1 + 1) = ((i + 1 : Nat) : Int) + 1 := by rw [wrap64 (by omega) (by omega)]; omega
    (refine AX.runM (And.intro t0 (And.intro t3 (And.intro t5 (And.intro hw e1)))) ?_)
    refine use (cW _ _) ?_
    (refine AX.runM (And.intro t0 (And.intro t3 (And.intro t5 w1))) ?_)
    exact ⟨f, by omega, i + 1, c', by omega, rfl, by (exact AX.ev0 t0), by (exact AX.ev0 t3), by (exact AX.ev0 w1)⟩
  | zero =>
    obtain rfl : i = N := by omega
    have e1 : ¬ ((i : Int) + 1 ≤ (i : Int)) := by omega
    have cS := fun l t => a_serials (SW i c) l t (show (0 : Int) ≤ (i : Int) by omega) (show (i : Int) ≤ 9007199254740992 by omega)
    have hS : (SW i c).serials = upTo (low i) ((i : Int) + 1 - low i).toNat := rfl
    obtain ⟨k, hk⟩ : ∃ k, ((i : Int) + 1 - low i).toNat = k := ⟨_, rfl⟩
    have hlo : 0 ≤ low i ∧ low i ≤ i := by unfold low; split <;> omega
    have hkk : (k : Int) = (i : Int) + 1 - low i := by omega
    have hmin : (if (64 : Int) < (i : Int) + 1 then 64 else (i : Int) + 1) = (k : Int) := by rw [hkk]; unfold low; split <;> split <;> omega
    rw [hS, hk] at cS
    have hrl := rowsI_len (low i) k
    have w1 : IntKind.i64.wrap ((i : Int) + 1) = (i : Int) + 1 := wrap64 (by omega) (by omega)
    have w2 : IntKind.i64.wrap ((i : Int) + 1 - (k : Int)) = low i := by rw [wrap64 (by omega) (by omega)]; omega
    have e3 : ((k : Int) != (k : Int)) = false := by simp
    (refine AX.runM (And.intro t0 (And.intro t3 (And.intro t5 (And.intro hw e1)))) ?_)
    refine use (cS _ _) ?_
    (refine AX.runM (And.intro t0 (And.intro t3 (And.intro t5 (And.intro hw (And.intro hrl (And.intro w1 (And.intro w2 (And.intro hmin e3)))))))) ?_)
    have hlt : ∀ j : Nat, j < k → (rowsI (upTo (low i) k)).getD j [] = [.int .i64 (low i + (j : Int))] := fun j hj => by
      simp [rowsI, upTo, List.getD_eq_getElem?_getD, hj]
    have aw := fun h => awake34 h
    refine awp_loop (fun mm ts h => ∃ j : Nat, mm + j = k ∧ h.b[0]? = some (SW i c).M ∧ h.b[1]? = some (SW i c).B ∧ 2 ≤ h.b.length ∧ ts 0 = .int .u8 (i : Int) ∧ ts 3 = .ptr 1 0 ∧ ts 6 = .sl 1 .no (rowsI (upTo (low i) k)) ∧ ts 7 = .int .i64 (low i) ∧ ts 8 = .int .i64 (j : Int)) k ?_ ?_
    · exact ⟨0, by omega, rfl, rfl, by simp, by (exact AX.ev0 t0), by (exact AX.ev0 t3), by (exact AX.ev0 True.intro), by (exact AX.ev0 True.intro), rfl⟩
    rintro mm ts2 ⟨hb, ht⟩ ⟨j, hj, g0, g1, g2, u0, u3, u6, u7, u8⟩
    dsimp only at g0 g1 g2
    cases mm with
    | succ f =>
      have d1 : (j : Int) < (k : Int) := by omega
      have d2 : (0 : Int) ≤ (j : Int) := by omega
      have d3 := hlt j (by omega)
      have cA := fun h h0 h1 => at_any i c (by omega) (low i + (j : Int)) h h0 h1
      obtain ⟨k1, k2⟩ := at_in i c (low i + (j : Int)) (by omega) (by omega)
      obtain ⟨⟨⟨lin, ser, ins, ps, os⟩, e⟩, hq⟩ : ∃ q, (SW i c).at' (low i + (j : Int)) = q := ⟨_, rfl⟩
      rw [hq] at cA k1 k2
      dsimp only at cA k1 k2
      subst k1; subst k2
      unfold Sf.St.A at cA
      dsimp only at cA
      have w3 : IntKind.i64.wrap (low i + (j : Int)) = low i + (j : Int) := wrap64 (by omega) (by omega)
      have w4 : IntKind.i64.wrap ((j : Int) + 1) = ((j + 1 : Nat) : Int) := by rw [wrap64 (by omega) (by omega)]; omega
      have d4 : ((low i + (j : Int)) != (low i + (j : Int))) = false := by simp
      have g3 : ∀ y, (hb ++ [y])[0]? = some (SW i c).M := fun y => by rw [List.getElem?_append_left (by omega)]; exact g0
      have g4 : ∀ y, (hb ++ [y])[1]? = some (SW i c).B := fun y => by rw [List.getElem?_append_left (by omega)]; exact g1
      (refine AX.runM (And.intro u0 (And.intro u3 (And.intro u6 (And.intro u7 (And.intro u8 (And.intro hrl (And.intro d1 (And.intro d2 d3)))))))) ?_)
      refine use (cA ⟨hb, ht⟩ g0 g1) ?_
      (refine AX.runM (And.intro u0 (And.intro u3 (And.intro u6 (And.intro u7 (And.intro u8 (And.intro hrl (And.intro d1 (And.intro d2 (And.intro d3 (And.intro w3 d4)))))))))) ?_)
      exact ⟨f, by omega, j + 1, by omega, g3 _, g4 _, by simp only [List.length_append, List.length_singleton]; omega, by (exact AX.ev0 u0), by (exact AX.ev0 u3), by (exact AX.ev0 u6), by (exact AX.ev0 u7), by (exact AX.ev0 (And.intro u8 w4))⟩
    | zero =>
      have d1 : ¬ ((j : Int) < (k : Int)) := by omega
      have cA := fun h h0 h1 => at_any i c (by omega) (low i - 1) h h0 h1
      rw [at_out i c (low i - 1) (by omega)] at cA
      dsimp only at cA
      rw [show Sf.zero.A = .agg [.str [], .int .i64 0, .sl 13 .no [], .sl 3 .no [], .sl 7 .no []] from rfl] at cA
      have w3 : IntKind.i64.wrap (low i - 1) = low i - 1 := wrap64 (by omega) (by omega)
      (refine AX.runM (And.intro u0 (And.intro u3 (And.intro u6 (And.intro u7 (And.intro u8 (And.intro hrl (And.intro d1 w3))))))) ?_)
      refine use (cA ⟨hb, ht⟩ g0 g1) ?_
      (refine AX.runM (And.intro u0 (And.intro u3 (And.intro u6 (And.intro u7 u8)))) ?_)
      refine use (aw _) ?_
      (refine AX.runM True.intro ?_)
      exact ⟨_, le_refl _, rfl⟩
theorem w_keepsX (n : Int) (k : (Lit.int .u8 n).wf = true) : ACall Tryz.prog GT 7 [.int .u8 n] ⟨[], []⟩ fun r _ => r = .bool true := w_keeps n (wf_u8 k).1 (by have := (wf_u8 k).2; omega)
end AX
end Go.Proofs.YtkhhnkceiibmfaaGreatDoor
