/- Part of what the proof needs. -/
import Derived.Test.YtnjkemakcejceaaGreatDoorMFrStoreNobodyF
import Derived.Test.YtnjkemakcejceaaGreatDoorMFrStoreNobodyI
import Derived.Test.YtnjkemakcejceaaGreatDoorMFrStoreNobodyJ
set_option linter.unusedSimpArgs false
set_option linter.unusedVariables false
set_option linter.unnecessarySimpa false
namespace Go.Proofs.YtnjkemakcejceaaGreatDoor
open Go.RowKit
set_option maxHeartbeats 4000000
namespace Sf
theorem instS_le (ver : Int) (s : Rs) : (instS ver s).1.r.rest.length ≤ s.r.rest.length := by
 unfold instS
 dsimp only
 refine Nat.le_trans (wordsS_le _ _ _) (Nat.le_trans (cntS_le _) ?_)
 have k : (flagS (numS (valueS (strS (strS (strS (strS s).1).1).1).1).1).1).1.r.rest.length ≤ s.r.rest.length :=
  Nat.le_trans (flagS_le _) (Nat.le_trans (numS_le _) (Nat.le_trans (valueS_le _) (Nat.le_trans (strS_le _) (Nat.le_trans (strS_le _) (Nat.le_trans (strS_le _) (strS_le _))))))
 split
 ·exact Nat.le_trans (flagS_le _) k
 ·exact k
end Sf
namespace AX
def c_rstate : AX.AFn := ⟨98, .seq (.reg false [⟨some 2, .alloc 26 [.str [], .int .i64 0, .sl 0 .nil [], .sl 0 .nil [], .sl 0 .nil []], none, []⟩]) (.seq (.reg true [⟨some 5, .mv (.t 0), none, []⟩, ⟨some 6, .nilck (.t 5), none, [0]⟩, ⟨some 7, .faddr 0 (.t 6), none, [1]⟩, ⟨some 8, .load false 1 (.t 7), none, [2]⟩, ⟨some 9, .call 96 [.t 8], none, [3]⟩, ⟨some 10, .mv (.t 0), none, []⟩, ⟨some 11, .nilck (.t 10), none, [5]⟩, ⟨some 12, .faddr 0 (.t 11), none, [6]⟩, ⟨some 13, .load false 1 (.t 12), none, [7]⟩, ⟨some 14, .call 51 [.t 13], none, [8, 4]⟩, ⟨some 15, .build [.str [], .int .i64 0, .sl 0 .nil [], .sl 0 .nil [], .sl 0 .nil []] [(0, 1, .t 9), (1, 1, .t 14)], none, [4, 9]⟩, ⟨some 3, .alloc 26 [.str [], .int .i64 0, .sl 0 .nil [], .sl 0 .nil [], .sl 0 .nil []], none, []⟩, ⟨none, .store 5 (.t 3) (.t 15), none, [11, 10, 9, 0, 1, 2, 3, 4, 5, 6, 7, 8, 9, 10, 11]⟩]) (.seq (.seq (.reg false [⟨some 16, .mv (.t 0), none, []⟩, ⟨some 17, .nilck (.t 16), none, []⟩, ⟨some 18, .faddr 0 (.t 17), none, []⟩, ⟨some 19, .load false 1 (.t 18), none, []⟩, ⟨some 20, .call 97 [.t 19, .c (.int .i64 1)], none, []⟩, ⟨some 21, .mv (.c (.int .i64 0)), none, []⟩]) (.block 0 (.loop (.seq (.reg false [⟨some 22, .bin .lss (.t 21) (.t 20), none, []⟩]) (.seq (.cond (.t 22) (.skip) (.exit 0)) (.seq (.block 1 (.seq (.seq (.reg false [⟨some 23, .mv (.t 0), none, []⟩, ⟨some 24, .call 53 [.t 23], none, []⟩]) (.cond (.t 24) (.seq (.reg false [⟨some 25, .load true 5 (.t 3), none, []⟩, ⟨none, .store 5 (.t 2) (.t 25), none, []⟩]) (.ret)) (.skip))) (.reg true [⟨some 26, .faddr 2 (.t 3), none, []⟩, ⟨some 27, .load false 1 (.t 26), none, [0]⟩, ⟨some 28, .mv (.t 0), none, []⟩, ⟨some 29, .call 98 [.t 28], none, [2]⟩, ⟨some 30, .mks 13 [.t 29], none, [3]⟩, ⟨some 31, .app 42 13 184 (.t 27) (.t 30), none, [1, 4, 3]⟩, ⟨some 32, .faddr 2 (.t 3), none, [0, 1, 2, 3, 4, 5]⟩, ⟨none, .store 1 (.t 32) (.t 31), none, [6, 5, 5, 0, 1, 2, 3, 4, 5]⟩]))) (.reg false [⟨some 33, .bin .add (.t 21) (.c (.int .i64 1)), none, []⟩, ⟨some 21, .mv (.t 33), none, []⟩]))))))) (.seq (.seq (.reg false [⟨some 34, .mv (.t 0), none, []⟩, ⟨some 35, .nilck (.t 34), none, []⟩, ⟨some 36, .faddr 1 (.t 35), none, []⟩, ⟨some 37, .load false 1 (.t 36), none, []⟩, ⟨some 38, .bin .eql (.t 37) (.c (.int .i64 2)), none, []⟩]) (.cond (.t 38) (.seq (.reg false [⟨some 39, .mv (.t 0), none, []⟩, ⟨some 40, .nilck (.t 39), none, []⟩, ⟨some 41, .faddr 0 (.t 40), none, []⟩, ⟨some 42, .load false 1 (.t 41), none, []⟩, ⟨some 43, .call 97 [.t 42, .c (.int .i64 1)], none, []⟩, ⟨some 44, .mv (.c (.int .i64 0)), none, []⟩]) (.block 2 (.loop (.seq (.reg false [⟨some 45, .bin .lss (.t 44) (.t 43), none, []⟩]) (.seq (.cond (.t 45) (.skip) (.exit 2)) (.seq (.block 3 (.reg true [⟨some 46, .faddr 3 (.t 3), none, []⟩, ⟨some 47, .load false 1 (.t 46), none, [0]⟩, ⟨some 48, .mv (.t 0), none, []⟩, ⟨some 49, .nilck (.t 48), none, [2]⟩, ⟨some 50, .faddr 0 (.t 49), none, [3]⟩, ⟨some 51, .load false 1 (.t 50), none, [4]⟩, ⟨some 52, .call 96 [.t 51], none, [5]⟩, ⟨some 53, .mv (.t 0), none, []⟩, ⟨some 54, .nilck (.t 53), none, [7]⟩, ⟨some 55, .faddr 0 (.t 54), none, [8]⟩, ⟨some 56, .load false 1 (.t 55), none, [9]⟩, ⟨some 57, .call 96 [.t 56], none, [10, 6]⟩, ⟨some 58, .mv (.t 0), none, []⟩, ⟨some 59, .nilck (.t 58), none, [12]⟩, ⟨some 60, .faddr 0 (.t 59), none, [13]⟩, ⟨some 61, .load false 1 (.t 60), none, [14]⟩, ⟨some 62, .call 96 [.t 61], none, [15, 11]⟩, ⟨some 63, .build [.str [], .str [], .str []] [(0, 1, .t 52), (1, 1, .t 57), (2, 1, .t 62)], none, [6, 11, 16]⟩, ⟨some 64, .mks 3 [.t 63], none, [17]⟩, ⟨some 65, .app 95 3 48 (.t 47) (.t 64), none, [1, 18, 16]⟩, ⟨some 66, .faddr 3 (.t 3), none, [0, 1, 2, 3, 4, 5, 6, 7, 8, 9, 10, 11, 12, 13, 14, 15, 16, 17, 18, 19]⟩, ⟨none, .store 1 (.t 66) (.t 65), none, [20, 19, 19, 0, 1, 2, 3, 4, 5, 6, 7, 8, 9, 10, 11, 12, 13, 14, 15, 16, 17, 18, 19]⟩])) (.reg false [⟨some 67, .bin .add (.t 44) (.c (.int .i64 1)), none, []⟩, ⟨some 44, .mv (.t 67), none, []⟩]))))))) (.skip))) (.seq (.seq (.reg false [⟨some 68, .mv (.t 0), none, []⟩, ⟨some 69, .nilck (.t 68), none, []⟩, ⟨some 70, .faddr 0 (.t 69), none, []⟩, ⟨some 71, .load false 1 (.t 70), none, []⟩, ⟨some 72, .call 97 [.t 71, .c (.int .i64 1)], none, []⟩, ⟨some 73, .mv (.c (.int .i64 0)), none, []⟩]) (.block 4 (.loop (.seq (.reg false [⟨some 74, .bin .lss (.t 73) (.t 72), none, []⟩]) (.seq (.cond (.t 74) (.skip) (.exit 4)) (.seq (.block 5 (.seq (.seq (.reg false [⟨some 75, .mv (.t 0), none, []⟩, ⟨some 76, .call 53 [.t 75], none, []⟩]) (.cond (.t 76) (.seq (.reg false [⟨some 77, .load true 5 (.t 3), none, []⟩, ⟨none, .store 5 (.t 2) (.t 77), none, []⟩]) (.ret)) (.skip))) (.seq (.reg false [⟨some 78, .mv (.t 0), none, []⟩, ⟨some 79, .nilck (.t 78), none, []⟩, ⟨some 80, .faddr 0 (.t 79), none, []⟩, ⟨some 81, .load false 1 (.t 80), none, []⟩, ⟨some 82, .call 96 [.t 81], none, []⟩, ⟨some 83, .build [.str [], .int .i64 0, .int .i64 0, .str [], .sl 0 .nil [], .sl 0 .nil [], .bool false] [(0, 1, .t 82)], none, []⟩, ⟨some 4, .alloc 98 [.str [], .int .i64 0, .int .i64 0, .str [], .sl 0 .nil [], .sl 0 .nil [], .bool false], none, []⟩, ⟨none, .store 7 (.t 4) (.t 83), none, []⟩]) (.seq (.reg false [⟨some 84, .mv (.t 0), none, []⟩, ⟨some 85, .call 99 [.t 84], none, []⟩, ⟨some 86, .faddr 1 (.t 4), none, []⟩, ⟨none, .store 5 (.t 86) (.t 85), none, []⟩]) (.seq (.reg false [⟨some 87, .mv (.t 0), none, []⟩, ⟨some 88, .call 100 [.t 87], none, []⟩, ⟨some 89, .faddr 6 (.t 4), none, []⟩, ⟨none, .store 1 (.t 89) (.t 88), none, []⟩]) (.reg false [⟨some 90, .faddr 4 (.t 3), none, []⟩, ⟨some 91, .load false 1 (.t 90), none, []⟩, ⟨some 92, .load true 7 (.t 4), none, []⟩, ⟨some 93, .mks 7 [.t 92], none, []⟩, ⟨some 94, .app 98 7 104 (.t 91) (.t 93), none, []⟩, ⟨some 95, .faddr 4 (.t 3), none, []⟩, ⟨none, .store 1 (.t 95) (.t 94), none, []⟩])))))) (.reg false [⟨some 96, .bin .add (.t 73) (.c (.int .i64 1)), none, []⟩, ⟨some 73, .mv (.t 96), none, []⟩]))))))) (.seq (.reg false [⟨some 97, .load true 5 (.t 3), none, []⟩, ⟨none, .store 5 (.t 2) (.t 97), none, []⟩]) (.ret)))))), [.c 2 true 5]⟩
theorem h_rstate : AX.compFn Tryz.prog 52 = some c_rstate := by kernel_rfl
theorem a_rstate {ver : Int} (hver : ver = 1 ∨ ver = 2) (s : Sf.Rs) (hl : s.r.rest.length ≤ 100000000) (l : List Blk) (t : List (TypeId × Nat × Nat)) :
  ACall Tryz.prog GT 52 [.ptr 0 0] ⟨RB ver s.bad :: rdr s.r :: l, t⟩ fun v h' => v = (Sf.stateS ver s).2.A ∧ h' = ⟨RB ver (Sf.stateS ver s).1.bad :: rdr (Sf.stateS ver s).1.r :: l, t⟩ := by
 refine liftR (s' := (Sf.stateS ver s).1) (v := (Sf.stateS ver s).2.A) ?_ rfl rfl l t
 refine acall_of mixedT h_rstate (by simp [c_rstate]) ?_
 dsimp only [c_rstate]
 unfold RB
 obtain ⟨⟨r1, x1⟩, h1⟩ : ∃ q, Wire.strR s.r = q := ⟨_, rfl⟩
 have l1 := Wire.strR_rest s.r
 rw [h1] at l1
 obtain ⟨⟨r2, x2⟩, h2⟩ : ∃ q, Wire.numR r1 = q := ⟨_, rfl⟩
 have l2 := Wire.numR_rest r1
 rw [h2] at l2
 obtain ⟨⟨rc, c⟩, hc⟩ : ∃ q, Wire.cntR r2 1 = q := ⟨_, rfl⟩
 have lc := Wire.cntR_rest r2 1
 have lk := Wire.cntR_cnt r2
 rw [hc] at lc lk
 dsimp only at l1 l2 lc lk
 have str : ∀ (r r' : Wire.St) (x : List UInt8) (h : Hp), Wire.strR r = (r', x) → h.b[1]? = some (rdr r) → r.rest.length ≤ 100000000 → ACall Tryz.prog GT 96 [.ptr 1 0] h fun v h' => v = .str x ∧ h' = ⟨h.b.set 1 (rdr r'), h.t⟩ := fun r r' x h e hb hl => by
  have := a_rstring hb hl
  rw [e] at this; exact this
 have num : ∀ (r r' : Wire.St) (x : Int) (h : Hp), Wire.numR r = (r', x) → h.b[1]? = some (rdr r) → r.rest.length ≤ 100000000 → ACall Tryz.prog GT 51 [.ptr 1 0] h fun v h' => v = .int .i64 x ∧ h' = ⟨h.b.set 1 (rdr r'), h.t⟩ := fun r r' x h e hb hl => by
  have := a_number hb hl
  rw [e] at this; exact this
 have cnt : ∀ (r r' : Wire.St) (x : Nat) (h : Hp), Wire.cntR r 1 = (r', x) → h.b[1]? = some (rdr r) → r.rest.length ≤ 100000000 → ACall Tryz.prog GT 97 [.ptr 1 0, .int .i64 1] h fun v h' => v = .int .i64 (x : Nat) ∧ h' = ⟨h.b.set 1 (rdr r'), h.t⟩ := fun r r' x h e hb hl => by
  have := a_count hb hl
  rw [e] at this; exact this
 obtain ⟨res, hres⟩ : ∃ q, Sf.instsS ver c ⟨rc, s.bad⟩ [] = q := ⟨_, rfl⟩
 have hS : Sf.stateS ver s = (if res.2.2 = false then (res.1, ⟨x1, x2, res.2.1, [], []⟩) else
   let p := if ver = 2 then Sf.pendsS (Sf.cntS res.1).2 (Sf.cntS res.1).1 [] else (res.1, [])
   let co := Sf.cntS p.1
   let o := Sf.outsS co.2 co.1 []
   (o.1, ⟨x1, x2, res.2.1, p.2, o.2.1⟩)) := by
  rw [← hres]
  unfold Sf.stateS Sf.strS Sf.numS
  simp only [h1, h2]
  rw [show Sf.cntS ⟨r2, s.bad⟩ = (⟨rc, s.bad⟩, c) by unfold Sf.cntS; simp only [hc]]
 have fin1 : ∀ {p : Sf.Rs} {is : List Sf.Inst}, (p, is, false) = res → Sf.stateS ver s = (p, ⟨x1, x2, is, [], []⟩) := fun e => by rw [hS, ← e]; rfl
 have fin2 : ∀ {p : Sf.Rs} {is : List Sf.Inst}, (p, is, true) = res → ∀ (q : Sf.Rs) (ps : List Sf.Pend) (rc3 : Wire.St) (c3 : Nat) {r3 : Sf.Rs × List Sf.Outp × Bool}, (if ver = 2 then Sf.pendsS (Sf.cntS p).2 (Sf.cntS p).1 [] else (p, [])) = (q, ps) → Wire.cntR q.r 1 = (rc3, c3) → Sf.outsS c3 ⟨rc3, q.bad⟩ [] = r3 → Sf.stateS ver s = (r3.1, ⟨x1, x2, is, ps, r3.2.1⟩) := by
  intro p is e q ps rc3 c3 r3 h h3 hr
  rw [hS, ← e]
  dsimp only
  rw [if_neg (by decide), h]
  dsimp only
  rw [show Sf.cntS q = (⟨rc3, q.bad⟩, c3) by unfold Sf.cntS; rw [h3]]
  dsimp only
  rw [hr]
 have hv12 : ∀ {G : Prop}, ((ver == 2) = false → G) → ((ver == 2) = true → G) → G := fun p q => by
  rcases bool_or (ver == 2) with e | e
  ·first | exact q e | exact p e
  ·first | exact p e | exact q e
 (refine AX.run0 True.intro ?_)
 refine go_gen [4, 9, 12] 11 [⟨[.cells 109 [.ptr 1 0, .int .i64 ver, .bool s.bad], rdr s.r, .cells 26 [.str [], .int .i64 0, .sl 0 .nil [], .sl 0 .nil [], .sl 0 .nil []]], []⟩, ⟨[.cells 109 [.ptr 1 0, .int .i64 ver, .bool s.bad], rdr r1, .cells 26 [.str [], .int .i64 0, .sl 0 .nil [], .sl 0 .nil [], .sl 0 .nil []]], []⟩, ⟨[.cells 109 [.ptr 1 0, .int .i64 ver, .bool s.bad], rdr r2, .cells 26 [.str [], .int .i64 0, .sl 0 .nil [], .sl 0 .nil [], .sl 0 .nil []]], []⟩, ⟨[], []⟩, ⟨[.cells 109 [.ptr 1 0, .int .i64 ver, .bool s.bad], rdr s.r, .cells 26 [.str [], .int .i64 0, .sl 0 .nil [], .sl 0 .nil [], .sl 0 .nil []], .cells 26 [.str [], .int .i64 0, .sl 0 .nil [], .sl 0 .nil [], .sl 0 .nil []]], []⟩, ⟨[.cells 109 [.ptr 1 0, .int .i64 ver, .bool s.bad], rdr r1, .cells 26 [.str [], .int .i64 0, .sl 0 .nil [], .sl 0 .nil [], .sl 0 .nil []], .cells 26 [.str [], .int .i64 0, .sl 0 .nil [], .sl 0 .nil [], .sl 0 .nil []]], []⟩, ⟨[.cells 109 [.ptr 1 0, .int .i64 ver, .bool s.bad], rdr r2, .cells 26 [.str [], .int .i64 0, .sl 0 .nil [], .sl 0 .nil [], .sl 0 .nil []], .cells 26 [.str [], .int .i64 0, .sl 0 .nil [], .sl 0 .nil [], .sl 0 .nil []]], []⟩, ⟨[.cells 109 [.ptr 1 0, .int .i64 ver, .bool s.bad], rdr r2, .cells 26 [.str [], .int .i64 0, .sl 0 .nil [], .sl 0 .nil [], .sl 0 .nil []], .cells 26 [.str x1, .int .i64 x2, .sl 0 .nil [], .sl 0 .nil [], .sl 0 .nil []]], []⟩] [[0, 4], [0, 4], [0, 4], [0, 4], [0, 4], [0, 1, 4, 5], [0, 1, 4, 5], [0, 1, 4, 5], [0, 1, 4, 5], [1, 5], [2, 6], [0, 1, 2], [6]] rfl (by decide +kernel) ?_
 refine AX.rung True.intro ?_
 refine gn_call (vs := [.ptr 1 0]) (by (exact AX.ev0 True.intro)) ⟨str s.r r1 x1 _ h1 rfl (by omega), str s.r r1 x1 _ h1 rfl (by omega), trivial⟩ ?_
 refine AX.rung True.intro ?_
 refine gn_call (vs := [.ptr 1 0]) (by (exact AX.ev0 True.intro)) ⟨num r1 r2 x2 _ h2 rfl (by omega), num r1 r2 x2 _ h2 rfl (by omega), trivial⟩ ?_
 refine AX.rung True.intro ?_
 (refine AX.run0 True.intro ?_)
 refine use (cnt r2 rc c _ hc rfl (by omega)) ?_
 (refine AX.run0 True.intro ?_)
 refine awp_loop (fun mm ts h => ∃ (j : Nat) (p : Sf.Rs) (is : List Sf.Inst) (W : Nat) (o : Own) (t : List (TypeId × Nat × Nat)), mm = c - j ∧ j ≤ c ∧ h = ⟨[.cells 109 [.ptr 1 0, .int .i64 ver, .bool p.bad], rdr p.r, .cells 26 [.str [], .int .i64 0, .sl 0 .nil [], .sl 0 .nil [], .sl 0 .nil []], .cells 26 [.str x1, .int .i64 x2, (.sl W o (is.map Sf.Inst.cells)), .sl 0 .nil [], .sl 0 .nil []]], t⟩ ∧ Sf.instsS ver (c - j) p is = res ∧ is.length = j ∧ p.r.rest.length ≤ 100000000 ∧ Gs 42 13 0 ⟨[], t⟩ (is.map Sf.Inst.cells) (.sl W o (is.map Sf.Inst.cells)) ∧ ts 0 = .ptr 0 0 ∧ ts 2 = .ptr 2 0 ∧ ts 3 = .ptr 3 0 ∧ ts 20 = .int .i64 (c : Nat) ∧ ts 21 = .int .i64 (j : Nat)) c ?_ ?_
 ·exact ⟨0, ⟨rc, s.bad⟩, [], 0, .nil, [], by omega, by omega, rfl, hres, rfl, (by dsimp only; omega), .inl ⟨rfl, rfl⟩, by (exact AX.ev0 True.intro), by (exact AX.ev0 True.intro), by (exact AX.ev0 True.intro), by (exact AX.ev0 True.intro), by (exact AX.inv0 True.intro)⟩
 rintro mm ts h ⟨j, p, is, W, o, t, rfl, hjc, rfl, hit, hdl, hpl, gX, t0, t2, t3, ta, tb⟩
 by_cases hj : j < c
 ·have cf := a_rfails (ver := ver) p [.cells 26 [.str [], .int .i64 0, .sl 0 .nil [], .sl 0 .nil [], .sl 0 .nil []], .cells 26 [.str x1, .int .i64 x2, (.sl W o (is.map Sf.Inst.cells)), .sl 0 .nil [], .sl 0 .nil []]] t
  unfold RB at cf
  have hlt : (j : Int) < (c : Int) := by omega
  have ei : IntKind.i64.wrap ((j : Int) + 1) = ((j + 1 : Nat) : Int) := by rw [wrap64 (by omega) (by omega)]; omega
  rw [show c - j = (c - (j + 1)) + 1 by omega] at hit
  unfold Sf.instsS at hit
  (refine AX.run0 (And.intro t0 (And.intro t2 (And.intro t3 (And.intro ta (And.intro tb hlt))))) ?_)
  refine use cf ?_
  rcases bool_or p.fails with e | e
  ·rw [e, if_pos rfl] at hit
   rw [e]
   (refine AX.run0 (And.intro t0 (And.intro t2 (And.intro t3 (And.intro ta tb)))) ?_)
   subst hit
   have hfin := fin1 rfl
   exact ⟨.agg [.str x1, .int .i64 x2, .sl 13 .no (is.map Sf.Inst.cells), .sl 3 .no (([] : List Sf.Pend).map Sf.Pend.cells), .sl 7 .no (([] : List Sf.Outp).map Sf.Outp.cells)], ⟨le1_refl _, le1_refl _, Gs.le gX, ⟨rfl, .inr rfl, .inl rfl⟩, ⟨rfl, .inr rfl, .inl rfl⟩, trivial⟩, by rw [hfin]; rfl, by rw [hfin]; rfl, by rw [hfin]; rfl⟩
  rw [e, if_neg (by decide)] at hit
  rw [e]
  have ci := a_rinst hver p hpl [.cells 26 [.str [], .int .i64 0, .sl 0 .nil [], .sl 0 .nil [], .sl 0 .nil []], .cells 26 [.str x1, .int .i64 x2, (.sl W o (is.map Sf.Inst.cells)), .sl 0 .nil [], .sl 0 .nil []]] t
  have li := Sf.instS_le ver p
  obtain ⟨⟨p2, x⟩, hx⟩ : ∃ q, Sf.instS ver p = q := ⟨_, rfl⟩
  rw [hx] at ci hit li
  dsimp only at ci hit li
  unfold RB at ci
  obtain ⟨W', o', t', hX, gX', _⟩ := gX.grow 184 x.cells (by rw [List.length_map]; omega) (by decide)
  have em : is.map Sf.Inst.cells ++ [x.cells] = (is ++ [x]).map Sf.Inst.cells := by simp
  rw [em] at gX'
  simp only [em] at hX
  have hil : (is ++ [x]).length = j + 1 := by simp [hdl]
  obtain ⟨is2, hi2⟩ : ∃ l, is ++ [x] = l := ⟨_, rfl⟩
  rw [hi2] at hX gX' hit hil
  clear em hi2 hx
  obtain ⟨a, d, id, ty, ⟨k, n, w, vi, vy⟩, v, tn, fi, ds⟩ := x
  simp only [Sf.Inst.cells] at ci hX
  (refine AX.run0 (And.intro t0 (And.intro t2 (And.intro t3 (And.intro ta tb)))) ?_)
  refine use ci ?_
  (refine AX.run0 (And.intro t0 (And.intro t2 (And.intro t3 (And.intro ta (And.intro tb (And.intro hX ei)))))) ?_)
  exact ⟨c - (j + 1), by omega, j + 1, p2, is2, W', o', t', rfl, by omega, rfl, hit, hil, by omega, gX', by (exact AX.ev0 t0), by (exact AX.ev0 t2), by (exact AX.ev0 t3), by (exact AX.ev0 ta), by (exact AX.ev0 ei)⟩
 have hlt : ¬ ((j : Int) < (c : Int)) := by omega
 rw [show c - j = 0 by omega] at hit
 unfold Sf.instsS at hit
 subst hit
 have cb : ∀ q : Wire.St, (Wire.cntR q 1).2 ≤ q.rest.length := fun q => Wire.cntR_cnt q
 refine hv12 (fun e2 => ?_) (fun e2 => ?_)
 ·have gY : Gs 95 3 0 ⟨[], t⟩ (([] : List Sf.Pend).map Sf.Pend.cells) (.sl 0 .nil (([] : List Sf.Pend).map Sf.Pend.cells)) := .inl ⟨rfl, rfl⟩
  (refine AX.run0 (And.intro t0 (And.intro t2 (And.intro t3 (And.intro ta (And.intro tb (And.intro hlt e2)))))) ?_)
  obtain ⟨q, hq⟩ : ∃ q, p = q := ⟨_, rfl⟩
  obtain ⟨ps, hps⟩ : ∃ ps : List Sf.Pend, [] = ps := ⟨_, rfl⟩
  have fin2 := fin2 rfl
  have hv0 : ver ≠ 2 := by simpa using e2
  subst hq
  obtain ⟨q, hq⟩ : ∃ q, p = q := ⟨_, rfl⟩
  rw [hq] at hpl ⊢
  obtain ⟨⟨rc3, c3⟩, hc3⟩ : ∃ x, Wire.cntR q.r 1 = x := ⟨_, rfl⟩
  have lc3 := Wire.cntR_rest q.r 1
  have lk3 := Wire.cntR_cnt q.r
  rw [hc3] at lc3 lk3
  dsimp only at lc3 lk3
  obtain ⟨res3, hres3⟩ : ∃ x, Sf.outsS c3 ⟨rc3, q.bad⟩ [] = x := ⟨_, rfl⟩
  have fin3 : ∀ {r3 : Sf.Rs × List Sf.Outp × Bool}, r3 = res3 → Sf.stateS ver s = (r3.1, ⟨x1, x2, is, ps, r3.2.1⟩) := fun e => by rw [e]; exact fin2 q ps rc3 c3 (by rw [if_neg hv0, hq, hps]) hc3 hres3
  obtain ⟨W2, o2, hW2⟩ : ∃ (W2 : Nat) (o2 : Own), W2 = 0 ∧ o2 = .nil := ⟨_, _, rfl, rfl⟩
  have hY0 : (A.sl 0 .nil [] : A) = .sl W2 o2 (ps.map Sf.Pend.cells) := by rw [hW2.1, hW2.2, ← hps]; rfl
  rw [hps] at gY
  have gY : Gs 95 3 0 ⟨[], t⟩ (ps.map Sf.Pend.cells) (.sl W2 o2 (ps.map Sf.Pend.cells)) := by rw [hW2.1, hW2.2]; exact gY
  refine use (cnt q.r rc3 c3 _ hc3 rfl (by omega)) ?_
  (refine AX.run0 (And.intro t0 (And.intro t2 t3)) ?_)
  refine awp_loop (fun mm ts h => ∃ (j : Nat) (p : Sf.Rs) (os : List Sf.Outp) (W3 : Nat) (o3 : Own) (l : List Blk) (t : List (TypeId × Nat × Nat)), mm = c3 - j ∧ j ≤ c3 ∧ h = ⟨.cells 109 [.ptr 1 0, .int .i64 ver, .bool p.bad] :: rdr p.r :: .cells 26 [.str [], .int .i64 0, .sl 0 .nil [], .sl 0 .nil [], .sl 0 .nil []] :: .cells 26 [.str x1, .int .i64 x2, (.sl W o (is.map Sf.Inst.cells)), (.sl W2 o2 (ps.map Sf.Pend.cells)), (.sl W3 o3 (os.map Sf.Outp.cells))] :: l, t⟩ ∧ Sf.outsS (c3 - j) p os = res3 ∧ os.length = j ∧ p.r.rest.length ≤ 100000000 ∧ Gs 42 13 0 ⟨[], t⟩ (is.map Sf.Inst.cells) (.sl W o (is.map Sf.Inst.cells)) ∧ Gs 95 3 0 ⟨[], t⟩ (ps.map Sf.Pend.cells) (.sl W2 o2 (ps.map Sf.Pend.cells)) ∧ Gs 98 7 0 ⟨[], t⟩ (os.map Sf.Outp.cells) (.sl W3 o3 (os.map Sf.Outp.cells)) ∧ ts 0 = .ptr 0 0 ∧ ts 2 = .ptr 2 0 ∧ ts 3 = .ptr 3 0 ∧ ts 72 = .int .i64 (c3 : Nat) ∧ ts 73 = .int .i64 (j : Nat)) c3 ?_ ?_
  ·exact ⟨0, ⟨rc3, q.bad⟩, [], 0, .nil, [], t, by omega, by omega, (by rw [← hY0]; rfl), hres3, rfl, (by dsimp only; omega), gX, gY, .inl ⟨rfl, rfl⟩, by (exact AX.ev0 t0), by (exact AX.ev0 t2), by (exact AX.ev0 t3), by (exact AX.ev0 True.intro), by (exact AX.inv0 True.intro)⟩
  rintro mm ts h ⟨j, p, os, W3, o3, l, t, rfl, hjc, rfl, hit, hdl, hpl, gX, gY, gZ, t0, t2, t3, ta, tb⟩
  by_cases hj : j < c3
  ·have cf := a_rfails (ver := ver) p (.cells 26 [.str [], .int .i64 0, .sl 0 .nil [], .sl 0 .nil [], .sl 0 .nil []] :: .cells 26 [.str x1, .int .i64 x2, (.sl W o (is.map Sf.Inst.cells)), (.sl W2 o2 (ps.map Sf.Pend.cells)), (.sl W3 o3 (os.map Sf.Outp.cells))] :: l) t
   unfold RB at cf
   have hlt : (j : Int) < (c3 : Int) := by omega
   have ei : IntKind.i64.wrap ((j : Int) + 1) = ((j + 1 : Nat) : Int) := by rw [wrap64 (by omega) (by omega)]; omega
   rw [show c3 - j = (c3 - (j + 1)) + 1 by omega] at hit
   unfold Sf.outsS at hit
   (refine AX.run0 (And.intro t0 (And.intro t2 (And.intro t3 (And.intro ta (And.intro tb hlt))))) ?_)
   refine use cf ?_
   rcases bool_or p.fails with e | e
   ·rw [e, if_pos rfl] at hit
    rw [e]
    (refine AX.run0 (And.intro t0 (And.intro t2 (And.intro t3 (And.intro ta tb)))) ?_)
    subst hit
    have hfin := fin3 rfl
    exact ⟨.agg [.str x1, .int .i64 x2, .sl 13 .no (is.map Sf.Inst.cells), .sl 3 .no (ps.map Sf.Pend.cells), .sl 7 .no (os.map Sf.Outp.cells)], ⟨le1_refl _, le1_refl _, Gs.le gX, Gs.le gY, Gs.le gZ, trivial⟩, by rw [hfin]; rfl, by rw [hfin]; rfl, by rw [hfin]; rfl⟩
   rw [e, if_neg (by decide)] at hit
   rw [e]
   (refine AX.run0 (And.intro t0 (And.intro t2 (And.intro t3 (And.intro ta tb)))) ?_)
   obtain ⟨⟨q1, y1⟩, g1⟩ : ∃ q, Wire.strR p.r = q := ⟨_, rfl⟩
   have m1 := Wire.strR_rest p.r
   rw [g1] at m1
   dsimp only at m1
   refine use (str p.r q1 y1 _ g1 rfl hpl) ?_
   (refine AX.run0 (And.intro t0 (And.intro t2 (And.intro t3 (And.intro ta tb)))) ?_)
   have cv := a_rvalue (ver := ver) ⟨q1, p.bad⟩ (by dsimp only; omega) (.cells 26 [.str [], .int .i64 0, .sl 0 .nil [], .sl 0 .nil [], .sl 0 .nil []] :: .cells 26 [.str x1, .int .i64 x2, (.sl W o (is.map Sf.Inst.cells)), (.sl W2 o2 (ps.map Sf.Pend.cells)), (.sl W3 o3 (os.map Sf.Outp.cells))] :: (l ++ [.cells 98 [.str y1, .int .i64 0, .int .i64 0, .str [], .sl 0 .nil [], .sl 0 .nil [], .bool false]])) t
   have m2 := Sf.valueS_le ⟨q1, p.bad⟩
   obtain ⟨⟨⟨q2, b2⟩, y2⟩, g2⟩ : ∃ q, Sf.valueS ⟨q1, p.bad⟩ = q := ⟨_, rfl⟩
   rw [g2] at cv m2
   dsimp only at cv m2
   obtain ⟨⟨⟨q3, b3⟩, y3⟩, g3⟩ : ∃ q, Sf.flagS ⟨q2, b2⟩ = q := ⟨_, rfl⟩
   have m3 := Sf.flagS_le ⟨q2, b2⟩
   rw [g3] at m3
   dsimp only at m3
   have ho : Sf.outS p = (⟨q3, b3⟩, ⟨y1, y2, y3⟩) := by unfold Sf.outS Sf.strS; simp only [g1, g2, g3]
   rw [ho] at hit
   dsimp only at hit
   obtain ⟨x, hxe⟩ : ∃ x : Sf.Outp, x = ⟨y1, y2, y3⟩ := ⟨_, rfl⟩
   rw [← hxe] at hit
   obtain ⟨W', o', t', hX, gZ', kZ⟩ := gZ.grow 104 x.cells (by rw [List.length_map]; omega) (by decide)
   have gX' := kZ _ _ _ _ (by decide) gX
   have gY' := kZ _ _ _ _ (by decide) gY
   have em : os.map Sf.Outp.cells ++ [x.cells] = (os ++ [x]).map Sf.Outp.cells := by simp
   rw [em] at gZ'
   simp only [em] at hX
   have hil : (os ++ [x]).length = j + 1 := by simp [hdl]
   obtain ⟨os2, hi2⟩ : ∃ l, os ++ [x] = l := ⟨_, rfl⟩
   rw [hi2] at hX gZ' hit hil
   clear em hi2
   subst hxe
   obtain ⟨k, n, w, vi, vy⟩ := y2
   have hVA : (V.mk k n w vi vy).A = .agg [.int .i64 k, .int .i64 n, .str w, .sl 5 .no (V.cellss vi), .sl 1 .no (strsA vy)] := by simp only [V.A, V.cells]
   rw [hVA] at cv
   unfold RB at cv
   simp only [Sf.Outp.cells] at hX
   refine use cv ?_
   (refine AX.run0 (And.intro t0 (And.intro t2 (And.intro t3 (And.intro ta tb)))) ?_)
   have cg := a_rflag (ver := ver) ⟨q2, b2⟩ (by dsimp only; omega) (.cells 26 [.str [], .int .i64 0, .sl 0 .nil [], .sl 0 .nil [], .sl 0 .nil []] :: .cells 26 [.str x1, .int .i64 x2, (.sl W o (is.map Sf.Inst.cells)), (.sl W2 o2 (ps.map Sf.Pend.cells)), (.sl W3 o3 (os.map Sf.Outp.cells))] :: (l ++ [.cells 98 [.str y1, .int .i64 k, .int .i64 n, .str w, .sl 5 .no (V.cellss vi), .sl 1 .no (strsA vy), .bool false]])) t
   rw [g3] at cg
   dsimp only at cg
   unfold RB at cg
   refine use cg ?_
   (refine AX.run0 (And.intro t0 (And.intro t2 (And.intro t3 (And.intro ta (And.intro tb (And.intro hX ei)))))) ?_)
   exact ⟨c3 - (j + 1), by omega, j + 1, ⟨q3, b3⟩, os2, W', o', l ++ [.cells 98 [.str y1, .int .i64 k, .int .i64 n, .str w, .sl 5 .no (V.cellss vi), .sl 1 .no (strsA vy), .bool y3]], t', rfl, by omega, rfl, hit, hil, (by dsimp only; omega), gX', gY', gZ', by (exact AX.ev0 t0), by (exact AX.ev0 t2), by (exact AX.ev0 t3), by (exact AX.ev0 ta), by (exact AX.ev0 ei)⟩
  have hlt : ¬ ((j : Int) < (c3 : Int)) := by omega
  rw [show c3 - j = 0 by omega] at hit
  unfold Sf.outsS at hit
  subst hit
  (refine AX.run0 (And.intro t0 (And.intro t2 (And.intro t3 (And.intro ta (And.intro tb hlt))))) ?_)
  have hfin := fin3 rfl
  exact ⟨.agg [.str x1, .int .i64 x2, .sl 13 .no (is.map Sf.Inst.cells), .sl 3 .no (ps.map Sf.Pend.cells), .sl 7 .no (os.map Sf.Outp.cells)], ⟨le1_refl _, le1_refl _, Gs.le gX, Gs.le gY, Gs.le gZ, trivial⟩, by rw [hfin]; rfl, by rw [hfin]; rfl, by rw [hfin]; rfl⟩
 ·obtain ⟨⟨rc2, c2⟩, hc2⟩ : ∃ x, Wire.cntR p.r 1 = x := ⟨_, rfl⟩
  have lc2 := Wire.cntR_rest p.r 1
  have lk2 := Wire.cntR_cnt p.r
  rw [hc2] at lc2 lk2
  dsimp only at lc2 lk2
  obtain ⟨res2, hres2⟩ : ∃ x, Sf.pendsS c2 ⟨rc2, p.bad⟩ [] = x := ⟨_, rfl⟩
  have hv2 : ver = 2 := by simpa using e2
  have fin2 := fin2 rfl
  have hp2 : (if ver = 2 then Sf.pendsS (Sf.cntS p).2 (Sf.cntS p).1 [] else (p, [])) = res2 := by rw [if_pos hv2]; unfold Sf.cntS; rw [hc2]; exact hres2
  rw [hp2] at fin2
  (refine AX.run0 (And.intro t0 (And.intro t2 (And.intro t3 (And.intro ta (And.intro tb (And.intro hlt e2)))))) ?_)
  refine use (cnt p.r rc2 c2 _ hc2 rfl (by omega)) ?_
  (refine AX.run0 (And.intro t0 (And.intro t2 t3)) ?_)
  refine awp_loop (fun mm ts h => ∃ (j : Nat) (p : Sf.Rs) (ps : List Sf.Pend) (W2 : Nat) (o2 : Own) (t : List (TypeId × Nat × Nat)), mm = c2 - j ∧ j ≤ c2 ∧ h = ⟨[.cells 109 [.ptr 1 0, .int .i64 ver, .bool p.bad], rdr p.r, .cells 26 [.str [], .int .i64 0, .sl 0 .nil [], .sl 0 .nil [], .sl 0 .nil []], .cells 26 [.str x1, .int .i64 x2, (.sl W o (is.map Sf.Inst.cells)), (.sl W2 o2 (ps.map Sf.Pend.cells)), .sl 0 .nil []]], t⟩ ∧ Sf.pendsS (c2 - j) p ps = res2 ∧ ps.length = j ∧ p.r.rest.length ≤ 100000000 ∧ Gs 42 13 0 ⟨[], t⟩ (is.map Sf.Inst.cells) (.sl W o (is.map Sf.Inst.cells)) ∧ Gs 95 3 0 ⟨[], t⟩ (ps.map Sf.Pend.cells) (.sl W2 o2 (ps.map Sf.Pend.cells)) ∧ ts 0 = .ptr 0 0 ∧ ts 2 = .ptr 2 0 ∧ ts 3 = .ptr 3 0 ∧ ts 43 = .int .i64 (c2 : Nat) ∧ ts 44 = .int .i64 (j : Nat)) c2 ?_ ?_
  ·exact ⟨0, ⟨rc2, p.bad⟩, [], 0, .nil, t, by omega, by omega, rfl, hres2, rfl, (by dsimp only; omega), gX, .inl ⟨rfl, rfl⟩, by (exact AX.ev0 t0), by (exact AX.ev0 t2), by (exact AX.ev0 t3), by (exact AX.ev0 True.intro), by (exact AX.inv0 True.intro)⟩
  rintro mm ts h ⟨j, q, ps, W2, o2, t, rfl, hjc, rfl, hit, hdl, hpl, gX, gY, t0, t2, t3, ta, tb⟩
  by_cases hj : j < c2
  ·have hq := hpl
   have hlt : (j : Int) < (c2 : Int) := by omega
   have ei : IntKind.i64.wrap ((j : Int) + 1) = ((j + 1 : Nat) : Int) := by rw [wrap64 (by omega) (by omega)]; omega
   rw [show c2 - j = (c2 - (j + 1)) + 1 by omega] at hit
   unfold Sf.pendsS at hit
   obtain ⟨⟨q1, y1⟩, g1⟩ : ∃ x, Wire.strR q.r = x := ⟨_, rfl⟩
   have m1 := Wire.strR_rest q.r
   rw [g1] at m1
   dsimp only at m1
   obtain ⟨⟨q2, y2⟩, g2⟩ : ∃ x, Wire.strR q1 = x := ⟨_, rfl⟩
   have m2 := Wire.strR_rest q1
   rw [g2] at m2
   dsimp only at m2
   obtain ⟨⟨q3, y3⟩, g3⟩ : ∃ x, Wire.strR q2 = x := ⟨_, rfl⟩
   have m3 := Wire.strR_rest q2
   rw [g3] at m3
   dsimp only at m3
   have ho : Sf.pendS q = (⟨q3, q.bad⟩, ⟨y1, y2, y3⟩) := by unfold Sf.pendS Sf.strS; simp only [g1, g2, g3]
   rw [ho] at hit
   dsimp only at hit
   obtain ⟨x, hxe⟩ : ∃ x : Sf.Pend, x = ⟨y1, y2, y3⟩ := ⟨_, rfl⟩
   rw [← hxe] at hit
   obtain ⟨W', o', t', hX, gY', kY⟩ := gY.grow 48 x.cells (by rw [List.length_map]; omega) (by decide)
   have gX' := kY _ _ _ _ (by decide) gX
   have em : ps.map Sf.Pend.cells ++ [x.cells] = (ps ++ [x]).map Sf.Pend.cells := by simp
   rw [em] at gY'
   simp only [em] at hX
   have hil : (ps ++ [x]).length = j + 1 := by simp [hdl]
   obtain ⟨ps2, hi2⟩ : ∃ l, ps ++ [x] = l := ⟨_, rfl⟩
   rw [hi2] at hX gY' hit hil
   clear em hi2
   subst hxe
   simp only [Sf.Pend.cells] at hX
   (refine AX.run0 (And.intro t0 (And.intro t2 (And.intro t3 (And.intro ta (And.intro tb hlt))))) ?_)
   refine use (str q.r q1 y1 _ g1 rfl hpl) ?_
   (refine AX.run0 (And.intro t0 (And.intro t2 (And.intro t3 (And.intro ta tb)))) ?_)
   refine use (str q1 q2 y2 _ g2 rfl (by omega)) ?_
   (refine AX.run0 (And.intro t0 (And.intro t2 (And.intro t3 (And.intro ta tb)))) ?_)
   refine use (str q2 q3 y3 _ g3 rfl (by omega)) ?_
   (refine AX.run0 (And.intro t0 (And.intro t2 (And.intro t3 (And.intro ta (And.intro tb (And.intro hX ei)))))) ?_)
   exact ⟨c2 - (j + 1), by omega, j + 1, ⟨q3, q.bad⟩, ps2, W', o', t', rfl, by omega, rfl, hit, hil, (by dsimp only; omega), gX', gY', by (exact AX.ev0 t0), by (exact AX.ev0 t2), by (exact AX.ev0 t3), by (exact AX.ev0 ta), by (exact AX.ev0 ei)⟩
  have hlt : ¬ ((j : Int) < (c2 : Int)) := by omega
  rw [show c2 - j = 0 by omega] at hit
  unfold Sf.pendsS at hit
  subst hit
  obtain ⟨⟨rc3, c3⟩, hc3⟩ : ∃ x, Wire.cntR q.r 1 = x := ⟨_, rfl⟩
  have lc3 := Wire.cntR_rest q.r 1
  have lk3 := Wire.cntR_cnt q.r
  rw [hc3] at lc3 lk3
  dsimp only at lc3 lk3
  obtain ⟨res3, hres3⟩ : ∃ x, Sf.outsS c3 ⟨rc3, q.bad⟩ [] = x := ⟨_, rfl⟩
  have fin3 : ∀ {r3 : Sf.Rs × List Sf.Outp × Bool}, r3 = res3 → Sf.stateS ver s = (r3.1, ⟨x1, x2, is, ps, r3.2.1⟩) := fun e => by rw [e]; exact fin2 q ps rc3 c3 rfl hc3 hres3
  (refine AX.run0 (And.intro t0 (And.intro t2 (And.intro t3 (And.intro ta (And.intro tb hlt))))) ?_)
  refine use (cnt q.r rc3 c3 _ hc3 rfl (by omega)) ?_
  (refine AX.run0 (And.intro t0 (And.intro t2 t3)) ?_)
  refine awp_loop (fun mm ts h => ∃ (j : Nat) (p : Sf.Rs) (os : List Sf.Outp) (W3 : Nat) (o3 : Own) (l : List Blk) (t : List (TypeId × Nat × Nat)), mm = c3 - j ∧ j ≤ c3 ∧ h = ⟨.cells 109 [.ptr 1 0, .int .i64 ver, .bool p.bad] :: rdr p.r :: .cells 26 [.str [], .int .i64 0, .sl 0 .nil [], .sl 0 .nil [], .sl 0 .nil []] :: .cells 26 [.str x1, .int .i64 x2, (.sl W o (is.map Sf.Inst.cells)), (.sl W2 o2 (ps.map Sf.Pend.cells)), (.sl W3 o3 (os.map Sf.Outp.cells))] :: l, t⟩ ∧ Sf.outsS (c3 - j) p os = res3 ∧ os.length = j ∧ p.r.rest.length ≤ 100000000 ∧ Gs 42 13 0 ⟨[], t⟩ (is.map Sf.Inst.cells) (.sl W o (is.map Sf.Inst.cells)) ∧ Gs 95 3 0 ⟨[], t⟩ (ps.map Sf.Pend.cells) (.sl W2 o2 (ps.map Sf.Pend.cells)) ∧ Gs 98 7 0 ⟨[], t⟩ (os.map Sf.Outp.cells) (.sl W3 o3 (os.map Sf.Outp.cells)) ∧ ts 0 = .ptr 0 0 ∧ ts 2 = .ptr 2 0 ∧ ts 3 = .ptr 3 0 ∧ ts 72 = .int .i64 (c3 : Nat) ∧ ts 73 = .int .i64 (j : Nat)) c3 ?_ ?_
  ·exact ⟨0, ⟨rc3, q.bad⟩, [], 0, .nil, [], t, by omega, by omega, rfl, hres3, rfl, (by dsimp only; omega), gX, gY, .inl ⟨rfl, rfl⟩, by (exact AX.ev0 t0), by (exact AX.ev0 t2), by (exact AX.ev0 t3), by (exact AX.ev0 True.intro), by (exact AX.inv0 True.intro)⟩
  rintro mm ts h ⟨j, p, os, W3, o3, l, t, rfl, hjc, rfl, hit, hdl, hpl, gX, gY, gZ, t0, t2, t3, ta, tb⟩
  by_cases hj : j < c3
  ·have cf := a_rfails (ver := ver) p (.cells 26 [.str [], .int .i64 0, .sl 0 .nil [], .sl 0 .nil [], .sl 0 .nil []] :: .cells 26 [.str x1, .int .i64 x2, (.sl W o (is.map Sf.Inst.cells)), (.sl W2 o2 (ps.map Sf.Pend.cells)), (.sl W3 o3 (os.map Sf.Outp.cells))] :: l) t
   unfold RB at cf
   have hlt : (j : Int) < (c3 : Int) := by omega
   have ei : IntKind.i64.wrap ((j : Int) + 1) = ((j + 1 : Nat) : Int) := by rw [wrap64 (by omega) (by omega)]; omega
   rw [show c3 - j = (c3 - (j + 1)) + 1 by omega] at hit
   unfold Sf.outsS at hit
   (refine AX.run0 (And.intro t0 (And.intro t2 (And.intro t3 (And.intro ta (And.intro tb hlt))))) ?_)
   refine use cf ?_
   rcases bool_or p.fails with e | e
   ·rw [e, if_pos rfl] at hit
    rw [e]
    (refine AX.run0 (And.intro t0 (And.intro t2 (And.intro t3 (And.intro ta tb)))) ?_)
    subst hit
    have hfin := fin3 rfl
    exact ⟨.agg [.str x1, .int .i64 x2, .sl 13 .no (is.map Sf.Inst.cells), .sl 3 .no (ps.map Sf.Pend.cells), .sl 7 .no (os.map Sf.Outp.cells)], ⟨le1_refl _, le1_refl _, Gs.le gX, Gs.le gY, Gs.le gZ, trivial⟩, by rw [hfin]; rfl, by rw [hfin]; rfl, by rw [hfin]; rfl⟩
   rw [e, if_neg (by decide)] at hit
   rw [e]
   (refine AX.run0 (And.intro t0 (And.intro t2 (And.intro t3 (And.intro ta tb)))) ?_)
   obtain ⟨⟨q1, y1⟩, g1⟩ : ∃ q, Wire.strR p.r = q := ⟨_, rfl⟩
   have m1 := Wire.strR_rest p.r
   rw [g1] at m1
   dsimp only at m1
   refine use (str p.r q1 y1 _ g1 rfl hpl) ?_
   (refine AX.run0 (And.intro t0 (And.intro t2 (And.intro t3 (And.intro ta tb)))) ?_)
   have cv := a_rvalue (ver := ver) ⟨q1, p.bad⟩ (by dsimp only; omega) (.cells 26 [.str [], .int .i64 0, .sl 0 .nil [], .sl 0 .nil [], .sl 0 .nil []] :: .cells 26 [.str x1, .int .i64 x2, (.sl W o (is.map Sf.Inst.cells)), (.sl W2 o2 (ps.map Sf.Pend.cells)), (.sl W3 o3 (os.map Sf.Outp.cells))] :: (l ++ [.cells 98 [.str y1, .int .i64 0, .int .i64 0, .str [], .sl 0 .nil [], .sl 0 .nil [], .bool false]])) t
   have m2 := Sf.valueS_le ⟨q1, p.bad⟩
   obtain ⟨⟨⟨q2, b2⟩, y2⟩, g2⟩ : ∃ q, Sf.valueS ⟨q1, p.bad⟩ = q := ⟨_, rfl⟩
   rw [g2] at cv m2
   dsimp only at cv m2
   obtain ⟨⟨⟨q3, b3⟩, y3⟩, g3⟩ : ∃ q, Sf.flagS ⟨q2, b2⟩ = q := ⟨_, rfl⟩
   have m3 := Sf.flagS_le ⟨q2, b2⟩
   rw [g3] at m3
   dsimp only at m3
   have ho : Sf.outS p = (⟨q3, b3⟩, ⟨y1, y2, y3⟩) := by unfold Sf.outS Sf.strS; simp only [g1, g2, g3]
   rw [ho] at hit
   dsimp only at hit
   obtain ⟨x, hxe⟩ : ∃ x : Sf.Outp, x = ⟨y1, y2, y3⟩ := ⟨_, rfl⟩
   rw [← hxe] at hit
   obtain ⟨W', o', t', hX, gZ', kZ⟩ := gZ.grow 104 x.cells (by rw [List.length_map]; omega) (by decide)
   have gX' := kZ _ _ _ _ (by decide) gX
   have gY' := kZ _ _ _ _ (by decide) gY
   have em : os.map Sf.Outp.cells ++ [x.cells] = (os ++ [x]).map Sf.Outp.cells := by simp
   rw [em] at gZ'
   simp only [em] at hX
   have hil : (os ++ [x]).length = j + 1 := by simp [hdl]
   obtain ⟨os2, hi2⟩ : ∃ l, os ++ [x] = l := ⟨_, rfl⟩
   rw [hi2] at hX gZ' hit hil
   clear em hi2
   subst hxe
   obtain ⟨k, n, w, vi, vy⟩ := y2
   have hVA : (V.mk k n w vi vy).A = .agg [.int .i64 k, .int .i64 n, .str w, .sl 5 .no (V.cellss vi), .sl 1 .no (strsA vy)] := by simp only [V.A, V.cells]
   rw [hVA] at cv
   unfold RB at cv
   simp only [Sf.Outp.cells] at hX
   refine use cv ?_
   (refine AX.run0 (And.intro t0 (And.intro t2 (And.intro t3 (And.intro ta tb)))) ?_)
   have cg := a_rflag (ver := ver) ⟨q2, b2⟩ (by dsimp only; omega) (.cells 26 [.str [], .int .i64 0, .sl 0 .nil [], .sl 0 .nil [], .sl 0 .nil []] :: .cells 26 [.str x1, .int .i64 x2, (.sl W o (is.map Sf.Inst.cells)), (.sl W2 o2 (ps.map Sf.Pend.cells)), (.sl W3 o3 (os.map Sf.Outp.cells))] :: (l ++ [.cells 98 [.str y1, .int .i64 k, .int .i64 n, .str w, .sl 5 .no (V.cellss vi), .sl 1 .no (strsA vy), .bool false]])) t
   rw [g3] at cg
   dsimp only at cg
   unfold RB at cg
   refine use cg ?_
   (refine AX.run0 (And.intro t0 (And.intro t2 (And.intro t3 (And.intro ta (And.intro tb (And.intro hX ei)))))) ?_)
   exact ⟨c3 - (j + 1), by omega, j + 1, ⟨q3, b3⟩, os2, W', o', l ++ [.cells 98 [.str y1, .int .i64 k, .int .i64 n, .str w, .sl 5 .no (V.cellss vi), .sl 1 .no (strsA vy), .bool y3]], t', rfl, by omega, rfl, hit, hil, (by dsimp only; omega), gX', gY', gZ', by (exact AX.ev0 t0), by (exact AX.ev0 t2), by (exact AX.ev0 t3), by (exact AX.ev0 ta), by (exact AX.ev0 ei)⟩
  have hlt : ¬ ((j : Int) < (c3 : Int)) := by omega
  rw [show c3 - j = 0 by omega] at hit
  unfold Sf.outsS at hit
  subst hit
  (refine AX.run0 (And.intro t0 (And.intro t2 (And.intro t3 (And.intro ta (And.intro tb hlt))))) ?_)
  have hfin := fin3 rfl
  exact ⟨.agg [.str x1, .int .i64 x2, .sl 13 .no (is.map Sf.Inst.cells), .sl 3 .no (ps.map Sf.Pend.cells), .sl 7 .no (os.map Sf.Outp.cells)], ⟨le1_refl _, le1_refl _, Gs.le gX, Gs.le gY, Gs.le gZ, trivial⟩, by rw [hfin]; rfl, by rw [hfin]; rfl, by rw [hfin]; rfl⟩
end AX
end Go.Proofs.YtnjkemakcejceaaGreatDoor

namespace Go.Proofs.YtnjkemakcejceaaGreatDoor
open Go.RowKit
set_option maxHeartbeats 4000000
namespace AX
def c_hasPrefix : AX.AFn := ⟨8, .seq (.reg false [⟨some 4, .mv (.c (.bool false)), none, []⟩]) (.seq (.reg false [⟨some 5, .mv (.t 0), none, []⟩, ⟨some 6, .mv (.t 1), none, []⟩, ⟨some 7, .call 89 [.t 5, .t 6], none, []⟩, ⟨some 4, .mv (.t 7), none, []⟩]) (.ret)), [.t 4]⟩
theorem h_hasPrefix : AX.compFn Tryz.prog 48 = some c_hasPrefix := by kernel_rfl
def c_liteHasPrefix : AX.AFn := ⟨18, .seq (.reg false [⟨some 4, .mv (.c (.bool false)), none, []⟩]) (.seq (.reg false [⟨some 5, .mv (.t 0), none, []⟩, ⟨some 6, .len true (.t 5), none, []⟩, ⟨some 7, .mv (.t 1), none, []⟩, ⟨some 8, .len true (.t 7), none, []⟩, ⟨some 9, .bin .geq (.t 6) (.t 8), none, []⟩, ⟨some 10, .mv (.t 9), none, []⟩, ⟨some 11, .mv (.t 0), some (10, true), []⟩, ⟨some 12, .mv (.t 1), some (10, true), []⟩, ⟨some 13, .len true (.t 12), some (10, true), []⟩, ⟨some 14, .ssl (.t 11) none (some (.t 13)), some (10, true), []⟩, ⟨some 15, .mv (.t 1), some (10, true), []⟩, ⟨some 16, .bin .eql (.t 14) (.t 15), some (10, true), []⟩, ⟨some 17, .pick (.t 10) (.t 16) (.c (.bool false)), none, []⟩, ⟨some 4, .mv (.t 17), none, []⟩]) (.ret)), [.t 4]⟩
theorem h_liteHasPrefix : AX.compFn Tryz.prog 89 = some c_liteHasPrefix := by kernel_rfl
def c_version : AX.AFn := ⟨24, .seq (.reg false [⟨some 2, .mv (.c (.int .i64 0)), none, []⟩, ⟨some 3, .mv (.c (.int .i64 0)), none, []⟩]) (.seq (.seq (.reg false [⟨some 6, .mv (.t 0), none, []⟩, ⟨some 7, .call 48 [.t 6, .c (.str [80, 86, 83, 84])], none, []⟩, ⟨some 8, .un .not (.t 7), none, []⟩]) (.cond (.t 8) (.seq (.reg false [⟨some 2, .mv (.c (.int .i64 0)), none, []⟩, ⟨some 3, .mv (.c (.int .i64 2)), none, []⟩]) (.ret)) (.skip))) (.seq (.reg false [⟨some 9, .mv (.t 0), none, []⟩, ⟨some 10, .ssl (.t 9) (some (.c (.int .i64 4))) none, none, []⟩, ⟨some 11, .call 50 [.t 10], none, []⟩, ⟨some 4, .mv (.t 11), none, []⟩]) (.seq (.reg false [⟨some 12, .mv (.t 4), none, []⟩, ⟨some 13, .call 51 [.t 12], none, []⟩, ⟨some 5, .mv (.t 13), none, []⟩]) (.seq (.seq (.reg false [⟨some 14, .mv (.t 4), none, []⟩, ⟨some 15, .call 83 [.t 14], none, []⟩, ⟨some 16, .bin .neq (.t 15) (.c (.int .i64 0)), none, []⟩]) (.cond (.t 16) (.seq (.reg false [⟨some 2, .mv (.c (.int .i64 0)), none, []⟩, ⟨some 3, .mv (.c (.int .i64 2)), none, []⟩]) (.ret)) (.skip))) (.seq (.seq (.reg false [⟨some 17, .mv (.t 5), none, []⟩, ⟨some 18, .bin .neq (.t 17) (.c (.int .i64 1)), none, []⟩, ⟨some 19, .mv (.t 18), none, []⟩, ⟨some 20, .mv (.t 5), some (19, true), []⟩, ⟨some 21, .bin .neq (.t 20) (.c (.int .i64 2)), some (19, true), []⟩, ⟨some 22, .pick (.t 19) (.t 21) (.c (.bool false)), none, []⟩]) (.cond (.t 22) (.seq (.reg false [⟨some 2, .mv (.c (.int .i64 0)), none, []⟩, ⟨some 3, .mv (.c (.int .i64 21)), none, []⟩]) (.ret)) (.skip))) (.seq (.reg false [⟨some 23, .mv (.t 5), none, []⟩, ⟨some 2, .mv (.t 23), none, []⟩, ⟨some 3, .mv (.c (.int .i64 0)), none, []⟩]) (.ret))))))), [.t 2, .t 3]⟩
theorem h_version : AX.compFn Tryz.prog 45 = some c_version := by kernel_rfl
theorem a_liteHasPrefix (s p : List UInt8) (h : Hp) : ACall Tryz.prog GT 89 [.str s, .str p] h fun r h' => r = .bool (decide (p.length ≤ s.length) && s.take p.length == p) ∧ h' = h := by
 refine pcall ?_ rfl (by simp [A.pure, A.data]) h
 refine acall_of mixedT h_liteHasPrefix (by simp [c_liteHasPrefix]) ?_
 dsimp only [c_liteHasPrefix]
 by_cases hl : p.length ≤ s.length
 ·have h1 : (s.length : Int) ≥ (p.length : Int) := by omega
  have h2 : (p.length : Int) ≤ (s.length : Int) := by omega
  (refine AX.go0 (And.intro h1 h2) ?_)
  exact ⟨_, le_refl _, by rw [tupA_1, decide_eq_true hl]; rfl⟩
 ·have h1 : ¬ (s.length : Int) ≥ (p.length : Int) := by omega
  (refine AX.go0 h1 ?_)
  exact ⟨_, le_refl _, by rw [tupA_1, decide_eq_false hl]; rfl⟩
theorem a_hasPrefix (s p : List UInt8) (h : Hp) : ACall Tryz.prog GT 48 [.str s, .str p] h fun r h' => r = .bool (decide (p.length ≤ s.length) && s.take p.length == p) ∧ h' = h := by
 refine pcall ?_ rfl (by simp [A.pure, A.data]) h
 refine acall_of mixedT h_hasPrefix (by simp [c_hasPrefix]) ?_
 dsimp only [c_hasPrefix]
 (refine AX.go0 True.intro ?_)
 (refine AX.gc0 True.intro ?_)
 refine (a_liteHasPrefix s p _).mono ?_
 rintro v h1 ⟨rfl, rfl⟩
 (refine AX.go0 True.intro ?_)
 exact ⟨_, le_refl _, rfl⟩
def magic : List UInt8 := [80, 86, 83, 84]
def preB (s : List UInt8) : Bool := decide (magic.length ≤ s.length) && s.take magic.length == magic
def versionS (s : List UInt8) : Int × Int :=
 if preB s = false then (0, 2) else
 let r := Wire.numR ⟨s.drop 4, 0⟩
 if r.1.e ≠ 0 then (0, 2) else if r.2 ≠ 1 ∧ r.2 ≠ 2 then (0, 21) else (r.2, 0)
theorem a_version (s : List UInt8) (hs : s.length ≤ 100000000) (h : Hp) : ACall Tryz.prog GT 45 [.str s] h fun r h' => r = .tup [.int .i64 (versionS s).1, .int .i64 (versionS s).2] ∧ h' = h := by
 refine pcall ?_ rfl (by simp [A.pure, A.data]) h
 refine acall_of mixedT h_version (by simp [c_version]) ?_
 dsimp only [c_version]
 (refine AX.go0 True.intro ?_)
 (refine AX.gc0 True.intro ?_)
 refine (a_hasPrefix s magic _).mono ?_
 rintro v h1 ⟨rfl, rfl⟩
 have hV : versionS s = if preB s = false then (0, 2) else if (Wire.numR ⟨s.drop 4, 0⟩).1.e ≠ 0 then (0, 2) else if (Wire.numR ⟨s.drop 4, 0⟩).2 ≠ 1 ∧ (Wire.numR ⟨s.drop 4, 0⟩).2 ≠ 2 then (0, 21) else ((Wire.numR ⟨s.drop 4, 0⟩).2, 0) := rfl
 rcases bool_or (preB s) with hp | hp
 rotate_left
 ·rw [if_pos hp] at hV
  unfold preB at hp
  rw [hp, hV]
  (refine AX.go0 True.intro ?_)
  exact ⟨_, le_refl _, rfl⟩
 ·rw [if_neg (by simp [hp])] at hV
  have hl4 : (4 : Int) ≤ (s.length : Int) := by
   unfold preB at hp
   simp only [Bool.and_eq_true, decide_eq_true_eq] at hp
   have := hp.1
   simp only [magic, List.length_cons, List.length_nil] at this
   omega
  unfold preB at hp
  rw [hp]
  have h04 : (0 : Int) ≤ 4 := by decide
  have h4 : (4 : Int).toNat = 4 := rfl
  (refine AX.go0 (And.intro hl4 (And.intro h04 h4)) ?_)
  (refine AX.gc0 True.intro ?_)
  refine (a_newReader (s.drop 4) _).mono ?_
  rintro v h1 ⟨rfl, rfl⟩
  (refine AX.go0 True.intro ?_)
  (refine AX.gc0 True.intro ?_)
  refine (a_number (i := 0) (r := ⟨s.drop 4, 0⟩) rfl (by simp; omega)).mono ?_
  rintro v h1 ⟨rfl, rfl⟩
  (refine AX.go0 True.intro ?_)
  (refine AX.gc0 True.intro ?_)
  refine (a_err (i := 0) (r := (Wire.numR ⟨s.drop 4, 0⟩).1) rfl).mono ?_
  rintro v h1 ⟨rfl, rfl⟩
  obtain ⟨q, hq⟩ : ∃ q, Wire.numR ⟨s.drop 4, 0⟩ = q := ⟨_, rfl⟩
  rw [hq] at hV ⊢
  by_cases he : q.1.e = 0
  rotate_left
  ·have e1 : (q.1.e != 0) = true := by simp [he]
   rw [if_pos he] at hV
   rw [hV]
   (refine AX.go0 e1 ?_)
   exact ⟨_, le_refl _, rfl⟩
  ·have e1 : (q.1.e != 0) = false := by simp [he]
   rw [if_neg (by simp [he])] at hV
   by_cases h1 : q.2 = 1
   ·have e2 : (q.2 != 1) = false := by simp [h1]
    rw [if_neg (by simp [h1])] at hV
    rw [hV]
    (refine AX.go0 (And.intro e1 e2) ?_)
    exact ⟨_, le_refl _, rfl⟩
   ·have e2 : (q.2 != 1) = true := by simp [h1]
    by_cases h2 : q.2 = 2
    ·have e3 : (q.2 != 2) = false := by simp [h2]
     rw [if_neg (by simp [h2])] at hV
     rw [hV]
     (refine AX.go0 (And.intro e1 (And.intro e2 e3)) ?_)
     exact ⟨_, le_refl _, rfl⟩
    ·have e3 : (q.2 != 2) = true := by simp [h2]
     rw [if_pos ⟨h1, h2⟩] at hV
     rw [hV]
     (refine AX.go0 (And.intro e1 (And.intro e2 e3)) ?_)
     exact ⟨_, le_refl _, rfl⟩
end AX
end Go.Proofs.YtnjkemakcejceaaGreatDoor

namespace Go.Proofs.YtnjkemakcejceaaGreatDoor
open Go.RowKit
set_option maxHeartbeats 4000000
namespace AX
def c_wstate : AX.AFn := ⟨99, .seq (.reg false [⟨some 3, .box 26 (.t 1), none, []⟩]) (.seq (.reg false [⟨some 10, .mv (.t 0), none, []⟩, ⟨some 11, .nilck (.t 10), none, []⟩, ⟨some 12, .faddr 0 (.t 11), none, []⟩, ⟨some 13, .call 129 [.t 12, .c (.str [80, 86, 83, 84])], none, []⟩]) (.seq (.reg false [⟨some 14, .mv (.t 0), none, []⟩, ⟨some 15, .mv (.t 0), none, []⟩, ⟨some 16, .nilck (.t 15), none, []⟩, ⟨some 17, .faddr 2 (.t 16), none, []⟩, ⟨some 18, .load false 1 (.t 17), none, []⟩, ⟨some 19, .call 127 [.t 14, .t 18], none, []⟩]) (.seq (.reg false [⟨some 20, .mv (.t 0), none, []⟩, ⟨some 21, .faddr 0 (.t 3), none, []⟩, ⟨some 22, .load false 1 (.t 21), none, []⟩, ⟨some 23, .call 128 [.t 20, .t 22], none, []⟩]) (.seq (.reg false [⟨some 24, .mv (.t 0), none, []⟩, ⟨some 25, .faddr 1 (.t 3), none, []⟩, ⟨some 26, .load false 1 (.t 25), none, []⟩, ⟨some 27, .call 127 [.t 24, .t 26], none, []⟩]) (.seq (.reg false [⟨some 28, .mv (.t 0), none, []⟩, ⟨some 29, .faddr 2 (.t 3), none, []⟩, ⟨some 30, .load false 1 (.t 29), none, []⟩, ⟨some 31, .len false (.t 30), none, []⟩, ⟨some 32, .call 127 [.t 28, .t 31], none, []⟩]) (.seq (.seq (.reg false [⟨some 33, .faddr 2 (.t 3), none, []⟩, ⟨some 34, .load false 1 (.t 33), none, []⟩, ⟨some 35, .len false (.t 34), none, []⟩, ⟨some 36, .mv (.c (.int .i64 0)), none, []⟩]) (.block 0 (.loop (.seq (.reg false [⟨some 37, .bin .lss (.t 36) (.t 35), none, []⟩]) (.seq (.cond (.t 37) (.skip) (.exit 0)) (.seq (.block 1 (.seq (.reg false [⟨some 38, .iaddr 13 (.t 34) (.t 36), none, []⟩, ⟨some 39, .load true 13 (.t 38), none, []⟩, ⟨some 5, .alloc 42 [.str [], .str [], .str [], .str [], .int .i64 0, .int .i64 0, .str [], .sl 0 .nil [], .sl 0 .nil [], .int .i64 0, .bool false, .bool false, .sl 0 .nil []], none, []⟩, ⟨none, .store 13 (.t 5) (.t 39), none, []⟩]) (.reg false [⟨some 40, .mv (.t 0), none, []⟩, ⟨some 41, .load true 13 (.t 5), none, []⟩, ⟨some 42, .call 130 [.t 40, .t 41], none, []⟩]))) (.reg false [⟨some 43, .bin .add (.t 36) (.c (.int .i64 1)), none, []⟩, ⟨some 36, .mv (.t 43), none, []⟩]))))))) (.seq (.seq (.reg false [⟨some 44, .mv (.t 0), none, []⟩, ⟨some 45, .nilck (.t 44), none, []⟩, ⟨some 46, .faddr 2 (.t 45), none, []⟩, ⟨some 47, .load false 1 (.t 46), none, []⟩, ⟨some 48, .bin .eql (.t 47) (.c (.int .i64 2)), none, []⟩]) (.cond (.t 48) (.seq (.reg false [⟨some 49, .mv (.t 0), none, []⟩, ⟨some 50, .faddr 3 (.t 3), none, []⟩, ⟨some 51, .load false 1 (.t 50), none, []⟩, ⟨some 52, .len false (.t 51), none, []⟩, ⟨some 53, .call 127 [.t 49, .t 52], none, []⟩]) (.seq (.reg false [⟨some 54, .faddr 3 (.t 3), none, []⟩, ⟨some 55, .load false 1 (.t 54), none, []⟩, ⟨some 56, .len false (.t 55), none, []⟩, ⟨some 57, .mv (.c (.int .i64 0)), none, []⟩]) (.block 2 (.loop (.seq (.reg false [⟨some 58, .bin .lss (.t 57) (.t 56), none, []⟩]) (.seq (.cond (.t 58) (.skip) (.exit 2)) (.seq (.block 3 (.seq (.reg false [⟨some 59, .iaddr 3 (.t 55) (.t 57), none, []⟩, ⟨some 60, .load true 3 (.t 59), none, []⟩, ⟨some 7, .alloc 95 [.str [], .str [], .str []], none, []⟩, ⟨none, .store 3 (.t 7) (.t 60), none, []⟩]) (.seq (.reg false [⟨some 61, .mv (.t 0), none, []⟩, ⟨some 62, .faddr 0 (.t 7), none, []⟩, ⟨some 63, .load false 1 (.t 62), none, []⟩, ⟨some 64, .call 128 [.t 61, .t 63], none, []⟩]) (.seq (.reg false [⟨some 65, .mv (.t 0), none, []⟩, ⟨some 66, .faddr 1 (.t 7), none, []⟩, ⟨some 67, .load false 1 (.t 66), none, []⟩, ⟨some 68, .call 128 [.t 65, .t 67], none, []⟩]) (.reg false [⟨some 69, .mv (.t 0), none, []⟩, ⟨some 70, .faddr 2 (.t 7), none, []⟩, ⟨some 71, .load false 1 (.t 70), none, []⟩, ⟨some 72, .call 128 [.t 69, .t 71], none, []⟩]))))) (.reg false [⟨some 73, .bin .add (.t 57) (.c (.int .i64 1)), none, []⟩, ⟨some 57, .mv (.t 73), none, []⟩])))))))) (.skip))) (.seq (.reg false [⟨some 74, .mv (.t 0), none, []⟩, ⟨some 75, .faddr 4 (.t 3), none, []⟩, ⟨some 76, .load false 1 (.t 75), none, []⟩, ⟨some 77, .len false (.t 76), none, []⟩, ⟨some 78, .call 127 [.t 74, .t 77], none, []⟩]) (.seq (.reg false [⟨some 79, .faddr 4 (.t 3), none, []⟩, ⟨some 80, .load false 1 (.t 79), none, []⟩, ⟨some 81, .len false (.t 80), none, []⟩, ⟨some 82, .mv (.c (.int .i64 0)), none, []⟩]) (.block 4 (.loop (.seq (.reg false [⟨some 83, .bin .lss (.t 82) (.t 81), none, []⟩]) (.seq (.cond (.t 83) (.skip) (.exit 4)) (.seq (.block 5 (.seq (.reg false [⟨some 84, .iaddr 7 (.t 80) (.t 82), none, []⟩, ⟨some 85, .load true 7 (.t 84), none, []⟩, ⟨some 9, .alloc 98 [.str [], .int .i64 0, .int .i64 0, .str [], .sl 0 .nil [], .sl 0 .nil [], .bool false], none, []⟩, ⟨none, .store 7 (.t 9) (.t 85), none, []⟩]) (.seq (.reg false [⟨some 86, .mv (.t 0), none, []⟩, ⟨some 87, .faddr 0 (.t 9), none, []⟩, ⟨some 88, .load false 1 (.t 87), none, []⟩, ⟨some 89, .call 128 [.t 86, .t 88], none, []⟩]) (.seq (.reg false [⟨some 90, .mv (.t 0), none, []⟩, ⟨some 91, .faddr 1 (.t 9), none, []⟩, ⟨some 92, .load true 5 (.t 91), none, []⟩, ⟨some 93, .call 84 [.t 90, .t 92], none, []⟩]) (.reg false [⟨some 94, .mv (.t 0), none, []⟩, ⟨some 95, .faddr 6 (.t 9), none, []⟩, ⟨some 96, .load false 1 (.t 95), none, []⟩, ⟨some 97, .call 131 [.t 94, .t 96], none, []⟩]))))) (.reg false [⟨some 98, .bin .add (.t 82) (.c (.int .i64 1)), none, []⟩, ⟨some 82, .mv (.t 98), none, []⟩]))))))))))))))), []⟩
theorem h_wstate : AX.compFn Tryz.prog 86 = some c_wstate := by kernel_rfl
theorem go_once {P : Program} {G : World → Prop} {c : ACode} {Q : AExit → Ts → Hp → Prop} {ts : Ts} {h : Hp} (k : awp P G c (thenA (fun _ _ => False) Q) ts h) : awp P G (.loop c) Q ts h := ⟨1, k⟩
theorem WP.bx {i : Nat} {ver : Int} {l : List UInt8} {h h' : Hp} (hp : WP i ver l h h') (h0 : l ≠ []) : h'.b[i]? = some (wtr ver l) := by
 rcases hp.1 with h1 | ⟨h1, _⟩
 ·exact h1
 ·exact absurd h1 h0
end AX
end Go.Proofs.YtnjkemakcejceaaGreatDoor

namespace Go.Proofs.YtnjkemakcejceaaGreatDoor
open Go.RowKit
set_option maxHeartbeats 4000000
namespace AX
def c_wflag : AX.AFn := ⟨9, .seq (.reg false [⟨some 4, .mv (.c (.int .i64 0)), none, []⟩]) (.seq (.seq (.reg false [⟨some 5, .mv (.t 1), none, []⟩]) (.cond (.t 5) (.reg false [⟨some 4, .mv (.c (.int .i64 1)), none, []⟩]) (.skip))) (.reg false [⟨some 6, .mv (.t 0), none, []⟩, ⟨some 7, .mv (.t 4), none, []⟩, ⟨some 8, .call 127 [.t 6, .t 7], none, []⟩])), []⟩
theorem h_wflag : AX.compFn Tryz.prog 131 = some c_wflag := by kernel_rfl
def c_winst : AX.AFn := ⟨59, .seq (.reg false [⟨some 3, .box 42 (.t 1), none, []⟩]) (.seq (.reg false [⟨some 6, .mv (.t 0), none, []⟩, ⟨some 7, .faddr 0 (.t 3), none, []⟩, ⟨some 8, .load false 1 (.t 7), none, []⟩, ⟨some 9, .call 128 [.t 6, .t 8], none, []⟩]) (.seq (.reg false [⟨some 10, .mv (.t 0), none, []⟩, ⟨some 11, .faddr 1 (.t 3), none, []⟩, ⟨some 12, .load false 1 (.t 11), none, []⟩, ⟨some 13, .call 128 [.t 10, .t 12], none, []⟩]) (.seq (.reg false [⟨some 14, .mv (.t 0), none, []⟩, ⟨some 15, .faddr 2 (.t 3), none, []⟩, ⟨some 16, .load false 1 (.t 15), none, []⟩, ⟨some 17, .call 128 [.t 14, .t 16], none, []⟩]) (.seq (.reg false [⟨some 18, .mv (.t 0), none, []⟩, ⟨some 19, .faddr 3 (.t 3), none, []⟩, ⟨some 20, .load false 1 (.t 19), none, []⟩, ⟨some 21, .call 128 [.t 18, .t 20], none, []⟩]) (.seq (.reg false [⟨some 22, .mv (.t 0), none, []⟩, ⟨some 23, .faddr 4 (.t 3), none, []⟩, ⟨some 24, .load true 5 (.t 23), none, []⟩, ⟨some 25, .call 84 [.t 22, .t 24], none, []⟩]) (.seq (.reg false [⟨some 26, .mv (.t 0), none, []⟩, ⟨some 27, .faddr 9 (.t 3), none, []⟩, ⟨some 28, .load false 1 (.t 27), none, []⟩, ⟨some 29, .call 127 [.t 26, .t 28], none, []⟩]) (.seq (.reg false [⟨some 30, .mv (.t 0), none, []⟩, ⟨some 31, .faddr 10 (.t 3), none, []⟩, ⟨some 32, .load false 1 (.t 31), none, []⟩, ⟨some 33, .call 131 [.t 30, .t 32], none, []⟩]) (.seq (.seq (.reg false [⟨some 34, .mv (.t 0), none, []⟩, ⟨some 35, .nilck (.t 34), none, []⟩, ⟨some 36, .faddr 2 (.t 35), none, []⟩, ⟨some 37, .load false 1 (.t 36), none, []⟩, ⟨some 38, .bin .eql (.t 37) (.c (.int .i64 2)), none, []⟩]) (.cond (.t 38) (.reg false [⟨some 39, .mv (.t 0), none, []⟩, ⟨some 40, .faddr 11 (.t 3), none, []⟩, ⟨some 41, .load false 1 (.t 40), none, []⟩, ⟨some 42, .call 131 [.t 39, .t 41], none, []⟩]) (.skip))) (.seq (.reg false [⟨some 43, .mv (.t 0), none, []⟩, ⟨some 44, .faddr 12 (.t 3), none, []⟩, ⟨some 45, .load false 1 (.t 44), none, []⟩, ⟨some 46, .len false (.t 45), none, []⟩, ⟨some 47, .call 127 [.t 43, .t 46], none, []⟩]) (.seq (.reg false [⟨some 48, .faddr 12 (.t 3), none, []⟩, ⟨some 49, .load false 1 (.t 48), none, []⟩, ⟨some 50, .len false (.t 49), none, []⟩, ⟨some 51, .mv (.c (.int .i64 0)), none, []⟩]) (.block 0 (.loop (.seq (.reg false [⟨some 52, .bin .lss (.t 51) (.t 50), none, []⟩]) (.seq (.cond (.t 52) (.skip) (.exit 0)) (.seq (.block 1 (.seq (.reg false [⟨some 53, .iaddr 1 (.t 49) (.t 51), none, []⟩, ⟨some 54, .load false 1 (.t 53), none, []⟩, ⟨some 5, .mv (.t 54), none, []⟩]) (.reg false [⟨some 55, .mv (.t 0), none, []⟩, ⟨some 56, .mv (.t 5), none, []⟩, ⟨some 57, .call 128 [.t 55, .t 56], none, []⟩]))) (.reg false [⟨some 58, .bin .add (.t 51) (.c (.int .i64 1)), none, []⟩, ⟨some 51, .mv (.t 58), none, []⟩])))))))))))))))), []⟩
theorem h_winst : AX.compFn Tryz.prog 130 = some c_winst := by kernel_rfl
theorem wtr_loc (ver : Int) (l : List UInt8) : (wtr ver l).loc 0 := by
 intro o x h
 simp only [wtr] at h
 split at h
 ·injection h with h; subst h; rfl
 ·cases h
theorem liftW {f : FuncId} {args : List A} {ver : Int} {l l' : List UInt8} (hl' : l' ≠ []) (hc : ACall Tryz.prog GT f (.ptr 0 0 :: args) ⟨[wtr ver l], []⟩ fun u h' => u = .tup [] ∧ WP 0 ver l' ⟨[wtr ver l], []⟩ h') (ha : A.locL 0 args = true) {h : Hp} {i : Nat} (hb : h.b[i]? = some (wtr ver l)) :
  ACall Tryz.prog GT f (.ptr i 0 :: args) h fun u h' => u = .tup [] ∧ h' = ⟨h.b.set i (wtr ver l'), h.t⟩ := by
 have h1 : ACall Tryz.prog GT f (.ptr 0 0 :: args) ⟨[wtr ver l], []⟩ fun u h' => ∃ b', h'.b[0]? = some b' ∧ u = .tup [] ∧ b' = wtr ver l' := hc.mono fun u h' ⟨e, hp⟩ => ⟨wtr ver l', WP.bx hp hl', e, rfl⟩
 refine (ACall.lift1 h1 ha (wtr_loc ver l) ?_ hb).mono ?_
 ·rintro u b' ⟨rfl, rfl⟩
  exact ⟨rfl, wtr_loc ver l'⟩
 ·rintro u h' ⟨b', ⟨rfl, rfl⟩, rfl⟩
  exact ⟨rfl, rfl⟩
theorem num_ne (n : Int) : Wire.num n ≠ [] := by
 have := (Wire.encF_len 9 (Wire.zig n)).1
 intro e
 have h : (Wire.num n).length = 0 := by rw [e]; rfl
 unfold Wire.num at h
 omega
theorem app_ne {a b : List UInt8} (h : b ≠ []) : a ++ b ≠ [] := by simp [h]
theorem strE_ne (s : List UInt8) : Wire.strE s ≠ [] := by
 unfold Wire.strE
 intro e
 exact num_ne _ (List.append_eq_nil_iff.1 e).1
theorem wn {h : Hp} {i : Nat} {ver : Int} {l : List UInt8} (hb : h.b[i]? = some (wtr ver l)) (n : Int) (hlen : l.length + 10 ≤ 1000000000) (h0 : -9223372036854775808 ≤ n) (h1 : n ≤ 9223372036854775807) :
  ACall Tryz.prog GT 127 [.ptr i 0, .int .i64 n] h fun u h' => u = .tup [] ∧ h' = ⟨h.b.set i (wtr ver (l ++ Wire.num n)), h.t⟩ :=
 liftW (app_ne (num_ne n)) (a_wnum (h := ⟨[wtr ver l], []⟩) (.inl rfl) n hlen h0 h1) rfl hb
theorem wt {h : Hp} {i : Nat} {ver : Int} {l : List UInt8} (hb : h.b[i]? = some (wtr ver l)) (s : List UInt8) (hlen : l.length + s.length + 10 ≤ 1000000000) :
  ACall Tryz.prog GT 128 [.ptr i 0, .str s] h fun u h' => u = .tup [] ∧ h' = ⟨h.b.set i (wtr ver (l ++ Wire.strE s)), h.t⟩ :=
 liftW (app_ne (strE_ne s)) (a_wtext (h := ⟨[wtr ver l], []⟩) (.inl rfl) s hlen) rfl hb
theorem wv {h : Hp} {i : Nat} {ver : Int} {l : List UInt8} (hb : h.b[i]? = some (wtr ver l)) (v : V) (hz : ∃ lv b, (Val.chk v lv b).1 = 0) (hlen : l.length + (Val.enc v).length + 10 ≤ 1000000000) (hv : v.lens) :
  ACall Tryz.prog GT 84 [.ptr i 0, v.A] h fun u h' => u = .tup [] ∧ h' = ⟨h.b.set i (wtr ver (l ++ Val.enc v)), h.t⟩ :=
 liftW (app_ne (enc_ne v)) (t_value v 0 ver l ⟨[wtr ver l], []⟩ (.inl rfl) hz hlen hv) (by obtain ⟨k, n, s, is, ks⟩ := v; rfl) hb
theorem wf {h : Hp} {i : Nat} {ver : Int} {l : List UInt8} (hb : h.b[i]? = some (wtr ver l)) (b : Bool) (hlen : l.length + 10 ≤ 1000000000) :
  ACall Tryz.prog GT 131 [.ptr i 0, .bool b] h fun u h' => u = .tup [] ∧ h' = ⟨h.b.set i (wtr ver (l ++ Sf.flagE b)), h.t⟩ := by
 refine acall_of mixedT h_wflag (by simp [c_wflag]) ?_
 dsimp only [c_wflag]
 cases b
 ·(refine AX.run0 True.intro ?_)
  refine use (wn hb _ hlen (by decide) (by decide)) ?_
  (refine AX.run0 True.intro ?_)
  exact ⟨_, le_refl _, rfl, rfl⟩
 ·(refine AX.run0 True.intro ?_)
  refine use (wn hb _ hlen (by decide) (by decide)) ?_
  (refine AX.run0 True.intro ?_)
  exact ⟨_, le_refl _, rfl, rfl⟩
structure Sf.InstOk (x : Sf.Inst) : Prop where
 z : ∃ lv b, (Val.chk x.attrs lv b).1 = 0
 lens : x.attrs.lens
 v0 : -9223372036854775808 ≤ x.ver
 v1 : x.ver ≤ 9223372036854775807
theorem strE_le (s : List UInt8) : s.length ≤ (Wire.strE s).length := by unfold Wire.strE; rw [List.length_append]; omega
theorem words_snoc (ds : List (List UInt8)) (j : Nat) (hj : j < ds.length) : Sf.wordsE (ds.take (j + 1)) = Sf.wordsE (ds.take j) ++ Wire.strE ds[j] := by
 unfold Sf.wordsE
 rw [List.take_succ_eq_append_getElem hj, List.flatMap_append]; simp
theorem words_take_le (ds : List (List UInt8)) (j : Nat) : (Sf.wordsE (ds.take j)).length ≤ (Sf.wordsE ds).length := by
 have : Sf.wordsE ds = Sf.wordsE (ds.take j) ++ Sf.wordsE (ds.drop j) := by unfold Sf.wordsE; rw [← List.flatMap_append, List.take_append_drop]
 rw [this, List.length_append]; omega
theorem w_inst {ver : Int} (hver : ver = 1 ∨ ver = 2) (x : Sf.Inst) (hx : Sf.InstOk x) (l : List UInt8) (hlen : l.length + (Sf.instE ver x).length + 20 ≤ 1000000000) {h : Hp} {i : Nat} (hb : h.b[i]? = some (wtr ver l)) :
  ACall Tryz.prog GT 130 [.ptr i 0, .agg x.cells] h fun u h' => u = .tup [] ∧ h' = ⟨h.b.set i (wtr ver (l ++ Sf.instE ver x)), h.t⟩ := by
 have key : ACall Tryz.prog GT 130 [.ptr 0 0, .agg x.cells] ⟨[wtr ver l], []⟩ fun u h' => ∃ b', h'.b[0]? = some b' ∧ u = .tup [] ∧ b' = wtr ver (l ++ Sf.instE ver x) := by
  have hz := hx.z
  have hl := hx.lens
  have v0 := hx.v0
  have v1 := hx.v1
  obtain ⟨a, d, id, ty, ⟨k, n, s, is, ks⟩, v, tn, fi, ds⟩ := x
  have hE : Sf.instE ver ⟨a, d, id, ty, .mk k n s is ks, v, tn, fi, ds⟩ = Wire.strE a ++ Wire.strE d ++ Wire.strE id ++ Wire.strE ty ++ Val.enc (.mk k n s is ks) ++ Wire.num v ++ Sf.flagE tn ++ (if ver = 2 then Sf.flagE fi else []) ++ Wire.num ds.length ++ Sf.wordsE ds := rfl
  rw [hE] at hlen ⊢
  have la := strE_le a
  have lb := strE_le d
  have lc := strE_le id
  have ld := strE_le ty
  have hVA : (V.mk k n s is ks).A = .agg [.int .i64 k, .int .i64 n, .str s, .sl 5 .no (V.cellss is), .sl 1 .no (strsA ks)] := by simp only [V.A, V.cells]
  have cv := fun (m : List UInt8) (h : Hp) (hb : h.b[0]? = some (wtr ver m)) (hm : m.length + (Val.enc (.mk k n s is ks)).length + 10 ≤ 1000000000) => wv hb (.mk k n s is ks) hz hm hl
  rw [hVA] at cv
  simp only [List.length_append] at hlen
  obtain ⟨F, hF⟩ : ∃ F, (if ver = 2 then Sf.flagE fi else []) = F := ⟨_, rfl⟩
  rw [hF] at hlen ⊢
  have hdl : ds.length ≤ 1000000000 := by
   have : ∀ l : List (List UInt8), l.length ≤ (Sf.wordsE l).length := by
    intro l
    induction l with
    | nil => simp
    | cons x l ih =>
     have h1 : Sf.wordsE (x :: l) = Wire.strE x ++ Sf.wordsE l := by simp [Sf.wordsE]
     have h2 : (Wire.strE x).length ≠ 0 := fun e => strE_ne x (List.length_eq_zero_iff.1 e)
     rw [h1, List.length_append, List.length_cons]; omega
   have := this ds; omega
  refine acall_of mixedT h_winst (by simp [c_winst]) ?_
  dsimp only [c_winst, Sf.Inst.cells]
  (refine AX.run0 True.intro ?_)
  refine use (wt rfl a (by omega)) ?_
  (refine AX.run0 True.intro ?_)
  refine use (wt rfl d (by simp only [List.length_append]; omega)) ?_
  (refine AX.run0 True.intro ?_)
  refine use (wt rfl id (by simp only [List.length_append]; omega)) ?_
  (refine AX.run0 True.intro ?_)
  refine use (wt rfl ty (by simp only [List.length_append]; omega)) ?_
  (refine AX.run0 True.intro ?_)
  refine use (cv _ _ rfl (by simp only [List.length_append]; omega)) ?_
  (refine AX.run0 True.intro ?_)
  refine use (wn rfl v (by simp only [List.length_append]; omega) v0 v1) ?_
  (refine AX.run0 True.intro ?_)
  refine use (wf rfl tn (by simp only [List.length_append]; omega)) ?_
  have hv12 : ∀ {G : Prop}, ((ver == 2) = false → F = [] → G) → ((ver == 2) = true → F = Sf.flagE fi → G) → G := fun p q => by
   rcases hver with rfl | rfl
   ·rw [if_neg (by decide)] at hF; exact p rfl hF.symm
   ·rw [if_pos rfl] at hF; exact q rfl hF.symm
  refine hv12 (fun e2 eF => ?_) (fun e2 eF => ?_)
  all_goals subst eF
  ·(refine AX.runW (And.intro e2 @strsA_length) ?_)
   refine use (wn rfl _ (by simp only [List.length_append]; omega) (by omega) (by omega)) ?_
   (refine AX.run0 @strsA_length ?_)
   refine awp_loop (fun mm ts h => ∃ j : Nat, mm = ds.length - j ∧ j ≤ ds.length ∧ h = ⟨[wtr ver (l ++ Wire.strE a ++ Wire.strE d ++ Wire.strE id ++ Wire.strE ty ++ Val.enc (.mk k n s is ks) ++ Wire.num v ++ Sf.flagE tn ++ Wire.num ds.length ++ Sf.wordsE (ds.take j)), .cells 42 [.str a, .str d, .str id, .str ty, .int .i64 k, .int .i64 n, .str s, .sl 5 .no (V.cellss is), .sl 1 .no (strsA ks), .int .i64 v, .bool tn, .bool fi, .sl 1 .no (strsA ds)]], []⟩ ∧ ts 0 = .ptr 0 0 ∧ ts 49 = .sl 1 .no (strsA ds) ∧ ts 50 = .int .i64 (ds.length : Nat) ∧ ts 51 = .int .i64 (j : Nat)) ds.length ?_ ?_
   ·exact ⟨0, by omega, by omega, by simp only [Sf.wordsE, List.take_zero, List.flatMap_nil, List.append_nil], by (exact AX.ev0 True.intro), by (exact AX.ev0 True.intro), by (exact AX.ev0 @strsA_length), by (exact AX.inv0 True.intro)⟩
   ·rintro mm ts h ⟨j, rfl, hjc, rfl, t0, t49, t50, t51⟩
    by_cases hj : j < ds.length
    ·have hlt : (j : Int) < (ds.length : Int) := by omega
     have ei : IntKind.i64.wrap ((j : Int) + 1) = ((j + 1 : Nat) : Int) := by rw [wrap64 (by omega) (by omega)]; omega
     have hg := strsA_get ds j hj
     have hlt' : (j : Int) < ((strsA ds).length : Int) := by rw [strsA_length]; exact hlt
     have hj0 : (0 : Int) ≤ (j : Int) := by omega
     have ht := words_take_le ds (j + 1)
     rw [words_snoc ds j hj, List.length_append] at ht
     have hsl := strE_le ds[j]
     (refine AX.run0 (And.intro t0 (And.intro t49 (And.intro t50 (And.intro t51 (And.intro hlt (And.intro hg (And.intro hlt' hj0))))))) ?_)
     refine use (wt rfl ds[j] (by simp only [List.length_append]; omega)) ?_
     (refine AX.run0 (And.intro t0 (And.intro t49 (And.intro t50 (And.intro t51 ei)))) ?_)
     exact ⟨ds.length - (j + 1), by omega, j + 1, rfl, by omega, by rw [words_snoc ds j hj]; simp only [List.append_assoc], by (exact AX.ev0 t0), by (exact AX.ev0 t49), by (exact AX.ev0 t50), by (exact AX.ev0 ei)⟩
    ·have hlt : ¬ ((j : Int) < (ds.length : Int)) := by omega
     have hjl : j = ds.length := by omega
     subst hjl
     (refine AX.run0 (And.intro t0 (And.intro t49 (And.intro t50 (And.intro t51 hlt)))) ?_)
     exact ⟨_, le_refl _, _, rfl, rfl, by simp only [List.take_length, List.append_assoc, List.nil_append]⟩
  ·(refine AX.runW e2 ?_)
   refine use (wf rfl fi (by simp only [List.length_append]; omega)) ?_
   (refine AX.run0 @strsA_length ?_)
   refine use (wn rfl _ (by simp only [List.length_append]; omega) (by omega) (by omega)) ?_
   (refine AX.run0 @strsA_length ?_)
   refine awp_loop (fun mm ts h => ∃ j : Nat, mm = ds.length - j ∧ j ≤ ds.length ∧ h = ⟨[wtr ver (l ++ Wire.strE a ++ Wire.strE d ++ Wire.strE id ++ Wire.strE ty ++ Val.enc (.mk k n s is ks) ++ Wire.num v ++ Sf.flagE tn ++ Sf.flagE fi ++ Wire.num ds.length ++ Sf.wordsE (ds.take j)), .cells 42 [.str a, .str d, .str id, .str ty, .int .i64 k, .int .i64 n, .str s, .sl 5 .no (V.cellss is), .sl 1 .no (strsA ks), .int .i64 v, .bool tn, .bool fi, .sl 1 .no (strsA ds)]], []⟩ ∧ ts 0 = .ptr 0 0 ∧ ts 49 = .sl 1 .no (strsA ds) ∧ ts 50 = .int .i64 (ds.length : Nat) ∧ ts 51 = .int .i64 (j : Nat)) ds.length ?_ ?_
   ·exact ⟨0, by omega, by omega, by simp only [Sf.wordsE, List.take_zero, List.flatMap_nil, List.append_nil], by (exact AX.ev0 True.intro), by (exact AX.ev0 True.intro), by (exact AX.ev0 @strsA_length), by (exact AX.inv0 True.intro)⟩
   ·rintro mm ts h ⟨j, rfl, hjc, rfl, t0, t49, t50, t51⟩
    by_cases hj : j < ds.length
    ·have hlt : (j : Int) < (ds.length : Int) := by omega
     have ei : IntKind.i64.wrap ((j : Int) + 1) = ((j + 1 : Nat) : Int) := by rw [wrap64 (by omega) (by omega)]; omega
     have hg := strsA_get ds j hj
     have hlt' : (j : Int) < ((strsA ds).length : Int) := by rw [strsA_length]; exact hlt
     have hj0 : (0 : Int) ≤ (j : Int) := by omega
     have ht := words_take_le ds (j + 1)
     rw [words_snoc ds j hj, List.length_append] at ht
     have hsl := strE_le ds[j]
     (refine AX.run0 (And.intro t0 (And.intro t49 (And.intro t50 (And.intro t51 (And.intro hlt (And.intro hg (And.intro hlt' hj0))))))) ?_)
     refine use (wt rfl ds[j] (by simp only [List.length_append]; omega)) ?_
     (refine AX.run0 (And.intro t0 (And.intro t49 (And.intro t50 (And.intro t51 ei)))) ?_)
     exact ⟨ds.length - (j + 1), by omega, j + 1, rfl, by omega, by rw [words_snoc ds j hj]; simp only [List.append_assoc], by (exact AX.ev0 t0), by (exact AX.ev0 t49), by (exact AX.ev0 t50), by (exact AX.ev0 ei)⟩
    ·have hlt : ¬ ((j : Int) < (ds.length : Int)) := by omega
     have hjl : j = ds.length := by omega
     subst hjl
     (refine AX.run0 (And.intro t0 (And.intro t49 (And.intro t50 (And.intro t51 hlt)))) ?_)
     exact ⟨_, le_refl _, _, rfl, rfl, by simp only [List.take_length, List.append_assoc, List.nil_append]⟩
 refine (ACall.lift1 key (by obtain ⟨a, d, id, ty, ⟨k, n, s, is, ks⟩, v, tn, fi, ds⟩ := x; rfl) (wtr_loc ver l) ?_ hb).mono ?_
 ·rintro u b' ⟨rfl, rfl⟩
  exact ⟨rfl, wtr_loc _ _⟩
 ·rintro u h' ⟨b', ⟨rfl, rfl⟩, rfl⟩
  exact ⟨rfl, rfl⟩
end AX
end Go.Proofs.YtnjkemakcejceaaGreatDoor

namespace Go.Proofs.YtnjkemakcejceaaGreatDoor
open Go.RowKit
set_option maxHeartbeats 4000000
namespace AX
theorem fm_snoc {α : Type} (f : α → List UInt8) (l : List α) (j : Nat) (hj : j < l.length) : (l.take (j + 1)).flatMap f = (l.take j).flatMap f ++ f l[j] := by
 rw [List.take_succ_eq_append_getElem hj, List.flatMap_append]; simp
theorem fm_le {α : Type} (f : α → List UInt8) (l : List α) (j : Nat) : ((l.take j).flatMap f).length ≤ (l.flatMap f).length := by
 have : l.flatMap f = (l.take j).flatMap f ++ (l.drop j).flatMap f := by rw [← List.flatMap_append, List.take_append_drop]
 rw [this, List.length_append]; omega
theorem map_getD {α : Type} (f : α → List A) (l : List α) (j : Nat) (hj : j < l.length) : (l.map f).getD j [] = f l[j] := by simp [List.getD, hj]
structure Sf.StOk (s : Sf.St) : Prop where
 insts : ∀ x ∈ s.insts, Sf.InstOk x
 outs : ∀ x ∈ s.outs, (∃ lv b, (Val.chk x.value lv b).1 = 0) ∧ x.value.lens
 ser0 : -9223372036854775808 ≤ s.ser
 ser1 : s.ser ≤ 9223372036854775807
 li : s.insts.length ≤ 1000000000
 lp : s.pends.length ≤ 1000000000
 lo : s.outs.length ≤ 1000000000
theorem w_state {ver : Int} (hver : ver = 1 ∨ ver = 2) (st : Sf.St) (ok : Sf.StOk st) (hlen : (Sf.stE ver st).length + 20 ≤ 1000000000) :
  ACall Tryz.prog GT 86 [.ptr 0 0, st.A] ⟨[.cells 142 [.nilp, .sl 0 .nil [], .int .i64 ver]], []⟩ fun u h' => ∃ b', h'.b[0]? = some b' ∧ u = .tup [] ∧ b' = wtr ver (Sf.stE ver st) := by
 obtain ⟨lin, ser, ins, ps, os⟩ := st
 have s0 : -9223372036854775808 ≤ ser := ok.ser0
 have s1 : ser ≤ 9223372036854775807 := ok.ser1
 have li : ins.length ≤ 1000000000 := ok.li
 have lp : ps.length ≤ 1000000000 := ok.lp
 have lo : os.length ≤ 1000000000 := ok.lo
 have hml : magic.length = 4 := rfl
 have lm1 : (ins.map Sf.Inst.cells).length = ins.length := List.length_map _
 have lm2 : (ps.map Sf.Pend.cells).length = ps.length := List.length_map _
 have lm3 : (os.map Sf.Outp.cells).length = os.length := List.length_map _
 obtain ⟨F, hF⟩ : ∃ F, (if ver = 2 then Wire.num ps.length ++ ps.flatMap Sf.pendE else []) = F := ⟨_, rfl⟩
 have hE : Sf.stE ver ⟨lin, ser, ins, ps, os⟩ = magic ++ Wire.num ver ++ Wire.strE lin ++ Wire.num ser ++ Wire.num ins.length ++ ins.flatMap (Sf.instE ver) ++ F ++ Wire.num os.length ++ os.flatMap Sf.outE := by rw [← hF]; rfl
 rw [hE] at hlen
 simp only [List.length_append, hml] at hlen
 have k0 := strE_le lin
 have hv12 : ∀ {G : Prop}, ((ver == 2) = false → F = [] → G) → ((ver == 2) = true → F = Wire.num ps.length ++ ps.flatMap Sf.pendE → G) → G := fun p q => by
  rcases hver with rfl | rfl
  ·rw [if_neg (by decide)] at hF; exact p rfl hF.symm
  ·rw [if_pos rfl] at hF; exact q rfl hF.symm
 have hv1 : 1 ≤ ver ∧ ver ≤ 2 := by omega
 refine acall_of mixedT h_wstate (by simp [c_wstate]) ?_
 dsimp only [c_wstate, Sf.St.A]
 (refine AX.run0 True.intro ?_)
 refine use (a_write (.inr ⟨rfl, rfl⟩) magic (by simp only [List.length_nil, hml]; decide)) ?_
 (refine AX.runW True.intro ?_)
 refine use (wn (i := 0) (ver := ver) (l := magic) rfl ver (by simp only [List.length_append, hml]; omega) (by omega) (by omega)) ?_
 (refine AX.run0 True.intro ?_)
 refine use (wt rfl lin (by simp only [List.length_append, hml]; omega)) ?_
 (refine AX.run0 True.intro ?_)
 refine use (wn rfl ser (by simp only [List.length_append, hml]; omega) s0 s1) ?_
 (refine AX.run0 (And.intro lm1 (And.intro lm2 lm3)) ?_)
 refine use (wn rfl _ (by simp only [List.length_append, hml]; omega) (by omega) (by omega)) ?_
 (refine AX.run0 (And.intro lm1 (And.intro lm2 lm3)) ?_)
 refine awp_loop (fun mm ts h => ∃ (j : Nat) (l : List Blk), mm = ins.length - j ∧ j ≤ ins.length ∧ h = ⟨wtr ver (magic ++ Wire.num ver ++ Wire.strE lin ++ Wire.num ser ++ Wire.num ins.length ++ (ins.take j).flatMap (Sf.instE ver)) :: .cells 26 [.str lin, .int .i64 ser, .sl 13 .no (ins.map Sf.Inst.cells), .sl 3 .no (ps.map Sf.Pend.cells), .sl 7 .no (os.map Sf.Outp.cells)] :: l, []⟩ ∧ ts 0 = .ptr 0 0 ∧ ts 3 = .ptr 1 0 ∧ ts 34 = .sl 13 .no (ins.map Sf.Inst.cells) ∧ ts 35 = .int .i64 (ins.length : Nat) ∧ ts 36 = .int .i64 (j : Nat)) ins.length ?_ ?_
 ·exact ⟨0, [], by omega, by omega, by simp only [List.take_zero, List.flatMap_nil, List.append_nil], by (exact AX.ev0 True.intro), by (exact AX.ev0 True.intro), by (exact AX.ev0 True.intro), by (exact AX.ev0 (And.intro lm1 (And.intro lm2 lm3))), by (exact AX.inv0 True.intro)⟩
 ·rintro mm ts h ⟨j, l, rfl, hjc, rfl, t0, t3, ta, tb, tc⟩
  by_cases hj : j < ins.length
  ·have hlt : (j : Int) < (ins.length : Int) := by omega
   have hlt' : (j : Int) < ((ins.map Sf.Inst.cells).length : Int) := by rw [List.length_map]; exact hlt
   have hj0 : (0 : Int) ≤ (j : Int) := by omega
   have ei : IntKind.i64.wrap ((j : Int) + 1) = ((j + 1 : Nat) : Int) := by rw [wrap64 (by omega) (by omega)]; omega
   have hs := fm_snoc (Sf.instE ver) ins j hj
   have ht := fm_le (Sf.instE ver) ins (j + 1)
   have hg := map_getD Sf.Inst.cells ins j hj
   have hm := List.getElem_mem hj
   have hok := ok.insts _ hm
   obtain ⟨x, hx⟩ : ∃ x, ins[j] = x := ⟨_, rfl⟩
   rw [hx] at hs hg hok
   rw [hs, List.length_append] at ht
   have cw := fun (m : List UInt8) (h : Hp) (hb : h.b[0]? = some (wtr ver m)) (hm : m.length + (Sf.instE ver x).length + 20 ≤ 1000000000) => w_inst hver x hok m hm hb
   obtain ⟨a, d, id, ty, ⟨k, n, s, is, ks⟩, v, tn, fi, ds⟩ := x
   simp only [Sf.Inst.cells] at hg cw
   (refine AX.run0 (And.intro t0 (And.intro t3 (And.intro ta (And.intro tb (And.intro tc (And.intro hlt (And.intro hg (And.intro hlt' hj0)))))))) ?_)
   refine use (cw _ _ rfl (by simp only [List.length_append, hml]; omega)) ?_
   (refine AX.run0 (And.intro t0 (And.intro t3 (And.intro ta (And.intro tb (And.intro tc ei))))) ?_)
   exact ⟨ins.length - (j + 1), by omega, j + 1, l ++ [.cells 42 [.str a, .str d, .str id, .str ty, .int .i64 k, .int .i64 n, .str s, .sl 5 .no (V.cellss is), .sl 1 .no (strsA ks), .int .i64 v, .bool tn, .bool fi, .sl 1 .no (strsA ds)]], rfl, by omega, by rw [hs]; simp only [List.append_assoc], by (exact AX.ev0 t0), by (exact AX.ev0 t3), by (exact AX.ev0 ta), by (exact AX.ev0 tb), by (exact AX.ev0 ei)⟩
  ·have hlt : ¬ ((j : Int) < (ins.length : Int)) := by omega
   have hjl : j = ins.length := by omega
   subst hjl
   rw [List.take_length]
   refine hv12 (fun e2 eF => ?_) (fun e2 eF => ?_)
   all_goals subst eF
   all_goals first | (simp only [List.length_append] at hlen) | skip
   ·(refine AX.runW (And.intro t0 (And.intro t3 (And.intro ta (And.intro tb (And.intro tc (And.intro hlt (And.intro e2 (And.intro lm1 (And.intro lm2 lm3))))))))) ?_)
    refine use (wn (i := 0) (ver := ver) (l := magic ++ Wire.num ver ++ Wire.strE lin ++ Wire.num ser ++ Wire.num ins.length ++ ins.flatMap (Sf.instE ver)) rfl _ (by simp only [List.length_append, hml]; omega) (by omega) (by omega)) ?_
    (refine AX.run0 (And.intro t0 (And.intro t3 (And.intro lm1 (And.intro lm2 lm3)))) ?_)
    refine awp_loop (fun mm ts h => ∃ (j : Nat) (l : List Blk), mm = os.length - j ∧ j ≤ os.length ∧ h = ⟨wtr ver (magic ++ Wire.num ver ++ Wire.strE lin ++ Wire.num ser ++ Wire.num ins.length ++ ins.flatMap (Sf.instE ver) ++ Wire.num os.length ++ (os.take j).flatMap Sf.outE) :: .cells 26 [.str lin, .int .i64 ser, .sl 13 .no (ins.map Sf.Inst.cells), .sl 3 .no (ps.map Sf.Pend.cells), .sl 7 .no (os.map Sf.Outp.cells)] :: l, []⟩ ∧ ts 0 = .ptr 0 0 ∧ ts 3 = .ptr 1 0 ∧ ts 80 = .sl 7 .no (os.map Sf.Outp.cells) ∧ ts 81 = .int .i64 (os.length : Nat) ∧ ts 82 = .int .i64 (j : Nat)) os.length ?_ ?_
    ·exact ⟨0, l, by omega, by omega, by simp only [List.take_zero, List.flatMap_nil, List.append_nil], by (exact AX.ev0 t0), by (exact AX.ev0 t3), by (exact AX.ev0 (And.intro t0 t3)), by (exact AX.ev0 (And.intro t0 (And.intro t3 (And.intro lm1 (And.intro lm2 lm3))))), by (exact AX.inv0 (And.intro t0 t3))⟩
    ·rintro mm ts h ⟨j, l, rfl, hjc, rfl, t0, t3, ta, tb, tc⟩
     by_cases hj : j < os.length
     ·have hlt : (j : Int) < (os.length : Int) := by omega
      have hlt' : (j : Int) < ((os.map Sf.Outp.cells).length : Int) := by rw [List.length_map]; exact hlt
      have hj0 : (0 : Int) ≤ (j : Int) := by omega
      have ei : IntKind.i64.wrap ((j : Int) + 1) = ((j + 1 : Nat) : Int) := by rw [wrap64 (by omega) (by omega)]; omega
      have hs := fm_snoc Sf.outE os j hj
      have ht := fm_le Sf.outE os (j + 1)
      have hg := map_getD Sf.Outp.cells os j hj
      have hm := List.getElem_mem hj
      have hok := ok.outs _ hm
      obtain ⟨x, hx⟩ : ∃ x, os[j] = x := ⟨_, rfl⟩
      rw [hx] at hs hg hok
      rw [hs, List.length_append] at ht
      obtain ⟨m, ⟨k, n, s, is, ks⟩, b⟩ := x
      have hVA : (V.mk k n s is ks).A = .agg [.int .i64 k, .int .i64 n, .str s, .sl 5 .no (V.cellss is), .sl 1 .no (strsA ks)] := by simp only [V.A, V.cells]
      have cv := fun (m : List UInt8) (h : Hp) (hb : h.b[0]? = some (wtr ver m)) (hm : m.length + (Val.enc (.mk k n s is ks)).length + 10 ≤ 1000000000) => wv hb (.mk k n s is ks) hok.1 hm hok.2
      rw [hVA] at cv
      simp only [Sf.Outp.cells] at hg
      simp only [Sf.outE] at hs ht
      simp only [List.length_append] at ht
      have k1 := strE_le m
      (refine AX.run0 (And.intro t0 (And.intro t3 (And.intro ta (And.intro tb (And.intro tc (And.intro hlt (And.intro hg (And.intro hlt' hj0)))))))) ?_)
      refine use (wt rfl m (by simp only [List.length_append, hml]; omega)) ?_
      (refine AX.run0 (And.intro t0 (And.intro t3 (And.intro ta (And.intro tb tc)))) ?_)
      refine use (cv _ _ rfl (by simp only [List.length_append, hml]; omega)) ?_
      (refine AX.run0 (And.intro t0 (And.intro t3 (And.intro ta (And.intro tb tc)))) ?_)
      refine use (wf rfl b (by simp only [List.length_append, hml]; omega)) ?_
      (refine AX.run0 (And.intro t0 (And.intro t3 (And.intro ta (And.intro tb (And.intro tc ei))))) ?_)
      exact ⟨os.length - (j + 1), by omega, j + 1, l ++ [.cells 98 [.str m, .int .i64 k, .int .i64 n, .str s, .sl 5 .no (V.cellss is), .sl 1 .no (strsA ks), .bool b]], rfl, by omega, by rw [hs]; simp only [List.append_assoc], by (exact AX.ev0 t0), by (exact AX.ev0 t3), by (exact AX.ev0 ta), by (exact AX.ev0 tb), by (exact AX.ev0 ei)⟩
     ·have hlt : ¬ ((j : Int) < (os.length : Int)) := by omega
      have hjl : j = os.length := by omega
      subst hjl
      rw [List.take_length]
      (refine AX.run0 (And.intro t0 (And.intro t3 (And.intro ta (And.intro tb (And.intro tc hlt))))) ?_)
      exact ⟨_, le_refl _, _, rfl, rfl, by rw [hE]; simp only [List.append_assoc, List.nil_append]⟩
   ·(refine AX.runW (And.intro t0 (And.intro t3 (And.intro ta (And.intro tb (And.intro tc (And.intro hlt (And.intro e2 (And.intro lm1 (And.intro lm2 lm3))))))))) ?_)
    refine use (wn (i := 0) (ver := ver) (l := magic ++ Wire.num ver ++ Wire.strE lin ++ Wire.num ser ++ Wire.num ins.length ++ ins.flatMap (Sf.instE ver)) rfl _ (by simp only [List.length_append, hml]; omega) (by omega) (by omega)) ?_
    (refine AX.run0 (And.intro t0 (And.intro t3 (And.intro lm1 (And.intro lm2 lm3)))) ?_)
    refine awp_loop (fun mm ts h => ∃ (j : Nat) (l : List Blk), mm = ps.length - j ∧ j ≤ ps.length ∧ h = ⟨wtr ver (magic ++ Wire.num ver ++ Wire.strE lin ++ Wire.num ser ++ Wire.num ins.length ++ ins.flatMap (Sf.instE ver) ++ Wire.num ps.length ++ (ps.take j).flatMap Sf.pendE) :: .cells 26 [.str lin, .int .i64 ser, .sl 13 .no (ins.map Sf.Inst.cells), .sl 3 .no (ps.map Sf.Pend.cells), .sl 7 .no (os.map Sf.Outp.cells)] :: l, []⟩ ∧ ts 0 = .ptr 0 0 ∧ ts 3 = .ptr 1 0 ∧ ts 55 = .sl 3 .no (ps.map Sf.Pend.cells) ∧ ts 56 = .int .i64 (ps.length : Nat) ∧ ts 57 = .int .i64 (j : Nat)) ps.length ?_ ?_
    ·exact ⟨0, l, by omega, by omega, by simp only [List.take_zero, List.flatMap_nil, List.append_nil], by (exact AX.ev0 t0), by (exact AX.ev0 t3), by (exact AX.ev0 (And.intro t0 t3)), by (exact AX.ev0 (And.intro t0 (And.intro t3 (And.intro lm1 (And.intro lm2 lm3))))), by (exact AX.inv0 (And.intro t0 t3))⟩
    ·rintro mm ts h ⟨j, l, rfl, hjc, rfl, t0, t3, ta, tb, tc⟩
     by_cases hj : j < ps.length
     ·have hlt : (j : Int) < (ps.length : Int) := by omega
      have hlt' : (j : Int) < ((ps.map Sf.Pend.cells).length : Int) := by rw [List.length_map]; exact hlt
      have hj0 : (0 : Int) ≤ (j : Int) := by omega
      have ei : IntKind.i64.wrap ((j : Int) + 1) = ((j + 1 : Nat) : Int) := by rw [wrap64 (by omega) (by omega)]; omega
      have hs := fm_snoc Sf.pendE ps j hj
      have ht := fm_le Sf.pendE ps (j + 1)
      have hg := map_getD Sf.Pend.cells ps j hj
      have hm := List.getElem_mem hj
      obtain ⟨x, hx⟩ : ∃ x, ps[j] = x := ⟨_, rfl⟩
      rw [hx] at hs hg
      rw [hs, List.length_append] at ht
      simp only [Sf.Pend.cells] at hg
      simp only [Sf.pendE] at hs ht
      simp only [List.length_append] at ht
      have k1 := strE_le x.addr
      have k2 := strE_le x.typ
      have k3 := strE_le x.tok
      (refine AX.run0 (And.intro t0 (And.intro t3 (And.intro ta (And.intro tb (And.intro tc (And.intro hlt (And.intro hg (And.intro hlt' hj0)))))))) ?_)
      refine use (wt rfl x.addr (by simp only [List.length_append, hml]; omega)) ?_
      (refine AX.run0 (And.intro t0 (And.intro t3 (And.intro ta (And.intro tb tc)))) ?_)
      refine use (wt rfl x.typ (by simp only [List.length_append, hml]; omega)) ?_
      (refine AX.run0 (And.intro t0 (And.intro t3 (And.intro ta (And.intro tb tc)))) ?_)
      refine use (wt rfl x.tok (by simp only [List.length_append, hml]; omega)) ?_
      (refine AX.run0 (And.intro t0 (And.intro t3 (And.intro ta (And.intro tb (And.intro tc ei))))) ?_)
      exact ⟨ps.length - (j + 1), by omega, j + 1, l ++ [.cells 95 [.str x.addr, .str x.typ, .str x.tok]], rfl, by omega, by rw [hs]; simp only [List.append_assoc], by (exact AX.ev0 t0), by (exact AX.ev0 t3), by (exact AX.ev0 ta), by (exact AX.ev0 tb), by (exact AX.ev0 ei)⟩
     ·have hlt : ¬ ((j : Int) < (ps.length : Int)) := by omega
      have hjl : j = ps.length := by omega
      subst hjl
      rw [List.take_length]
      (refine AX.run0 (And.intro t0 (And.intro t3 (And.intro ta (And.intro tb (And.intro tc (And.intro hlt (And.intro lm1 (And.intro lm2 lm3)))))))) ?_)
      refine use (wn rfl _ (by simp only [List.length_append, hml]; omega) (by omega) (by omega)) ?_
      (refine AX.run0 (And.intro t0 (And.intro t3 (And.intro lm1 (And.intro lm2 lm3)))) ?_)
      refine awp_loop (fun mm ts h => ∃ (j : Nat) (l : List Blk), mm = os.length - j ∧ j ≤ os.length ∧ h = ⟨wtr ver (magic ++ Wire.num ver ++ Wire.strE lin ++ Wire.num ser ++ Wire.num ins.length ++ ins.flatMap (Sf.instE ver) ++ Wire.num ps.length ++ ps.flatMap Sf.pendE ++ Wire.num os.length ++ (os.take j).flatMap Sf.outE) :: .cells 26 [.str lin, .int .i64 ser, .sl 13 .no (ins.map Sf.Inst.cells), .sl 3 .no (ps.map Sf.Pend.cells), .sl 7 .no (os.map Sf.Outp.cells)] :: l, []⟩ ∧ ts 0 = .ptr 0 0 ∧ ts 3 = .ptr 1 0 ∧ ts 80 = .sl 7 .no (os.map Sf.Outp.cells) ∧ ts 81 = .int .i64 (os.length : Nat) ∧ ts 82 = .int .i64 (j : Nat)) os.length ?_ ?_
      ·exact ⟨0, l, by omega, by omega, by simp only [List.take_zero, List.flatMap_nil, List.append_nil], by (exact AX.ev0 t0), by (exact AX.ev0 t3), by (exact AX.ev0 (And.intro t0 t3)), by (exact AX.ev0 (And.intro t0 (And.intro t3 (And.intro lm1 (And.intro lm2 lm3))))), by (exact AX.inv0 (And.intro t0 t3))⟩
      ·rintro mm ts h ⟨j, l, rfl, hjc, rfl, t0, t3, ta, tb, tc⟩
       by_cases hj : j < os.length
       ·have hlt : (j : Int) < (os.length : Int) := by omega
        have hlt' : (j : Int) < ((os.map Sf.Outp.cells).length : Int) := by rw [List.length_map]; exact hlt
        have hj0 : (0 : Int) ≤ (j : Int) := by omega
        have ei : IntKind.i64.wrap ((j : Int) + 1) = ((j + 1 : Nat) : Int) := by rw [wrap64 (by omega) (by omega)]; omega
        have hs := fm_snoc Sf.outE os j hj
        have ht := fm_le Sf.outE os (j + 1)
        have hg := map_getD Sf.Outp.cells os j hj
        have hm := List.getElem_mem hj
        have hok := ok.outs _ hm
        obtain ⟨x, hx⟩ : ∃ x, os[j] = x := ⟨_, rfl⟩
        rw [hx] at hs hg hok
        rw [hs, List.length_append] at ht
        obtain ⟨m, ⟨k, n, s, is, ks⟩, b⟩ := x
        have hVA : (V.mk k n s is ks).A = .agg [.int .i64 k, .int .i64 n, .str s, .sl 5 .no (V.cellss is), .sl 1 .no (strsA ks)] := by simp only [V.A, V.cells]
        have cv := fun (m : List UInt8) (h : Hp) (hb : h.b[0]? = some (wtr ver m)) (hm : m.length + (Val.enc (.mk k n s is ks)).length + 10 ≤ 1000000000) => wv hb (.mk k n s is ks) hok.1 hm hok.2
        rw [hVA] at cv
        simp only [Sf.Outp.cells] at hg
        simp only [Sf.outE] at hs ht
        simp only [List.length_append] at ht
        have k1 := strE_le m
        (refine AX.run0 (And.intro t0 (And.intro t3 (And.intro ta (And.intro tb (And.intro tc (And.intro hlt (And.intro hg (And.intro hlt' hj0)))))))) ?_)
        refine use (wt rfl m (by simp only [List.length_append, hml]; omega)) ?_
        (refine AX.run0 (And.intro t0 (And.intro t3 (And.intro ta (And.intro tb tc)))) ?_)
        refine use (cv _ _ rfl (by simp only [List.length_append, hml]; omega)) ?_
        (refine AX.run0 (And.intro t0 (And.intro t3 (And.intro ta (And.intro tb tc)))) ?_)
        refine use (wf rfl b (by simp only [List.length_append, hml]; omega)) ?_
        (refine AX.run0 (And.intro t0 (And.intro t3 (And.intro ta (And.intro tb (And.intro tc ei))))) ?_)
        exact ⟨os.length - (j + 1), by omega, j + 1, l ++ [.cells 98 [.str m, .int .i64 k, .int .i64 n, .str s, .sl 5 .no (V.cellss is), .sl 1 .no (strsA ks), .bool b]], rfl, by omega, by rw [hs]; simp only [List.append_assoc], by (exact AX.ev0 t0), by (exact AX.ev0 t3), by (exact AX.ev0 ta), by (exact AX.ev0 tb), by (exact AX.ev0 ei)⟩
       ·have hlt : ¬ ((j : Int) < (os.length : Int)) := by omega
        have hjl : j = os.length := by omega
        subst hjl
        rw [List.take_length]
        (refine AX.run0 (And.intro t0 (And.intro t3 (And.intro ta (And.intro tb (And.intro tc hlt))))) ?_)
        exact ⟨_, le_refl _, _, rfl, rfl, by rw [hE]; simp only [List.append_assoc, List.nil_append]⟩
end AX
end Go.Proofs.YtnjkemakcejceaaGreatDoor

namespace Go.Proofs.YtnjkemakcejceaaGreatDoor
open Go.RowKit
set_option maxHeartbeats 4000000
namespace AX
def c_stext : AX.AFn := ⟨9, .seq (.reg false [⟨some 2, .mv (.c (.bool false)), none, []⟩]) (.seq (.reg false [⟨some 3, .mv (.t 0), none, []⟩, ⟨some 4, .bin .neq (.t 3) (.c (.str [])), none, []⟩, ⟨some 5, .mv (.t 4), none, []⟩, ⟨some 6, .mv (.t 0), some (5, true), []⟩, ⟨some 7, .call 74 [.t 6], some (5, true), []⟩, ⟨some 8, .pick (.t 5) (.t 7) (.c (.bool false)), none, []⟩, ⟨some 2, .mv (.t 8), none, []⟩]) (.ret)), [.t 2]⟩
theorem h_stext : AX.compFn Tryz.prog 39 = some c_stext := by kernel_rfl
def c_scheck : AX.AFn := ⟨128, .seq (.reg false [⟨some 1, .box 26 (.t 0), none, []⟩, ⟨some 2, .mv (.c (.int .i64 0)), none, []⟩]) (.seq (.seq (.reg false [⟨some 11, .faddr 0 (.t 1), none, []⟩, ⟨some 12, .load false 1 (.t 11), none, []⟩, ⟨some 13, .call 39 [.t 12], none, []⟩, ⟨some 14, .un .not (.t 13), none, []⟩]) (.cond (.t 14) (.seq (.reg false [⟨some 2, .mv (.c (.int .i64 1)), none, []⟩]) (.ret)) (.skip))) (.seq (.seq (.reg false [⟨some 15, .faddr 1 (.t 1), none, []⟩, ⟨some 16, .load false 1 (.t 15), none, []⟩, ⟨some 17, .bin .lss (.t 16) (.c (.int .i64 0)), none, []⟩, ⟨some 18, .mv (.t 17), none, []⟩, ⟨some 19, .faddr 1 (.t 1), some (18, false), []⟩, ⟨some 20, .load false 1 (.t 19), some (18, false), []⟩, ⟨some 21, .bin .gtr (.t 20) (.c (.int .i64 9007199254740992)), some (18, false), []⟩, ⟨some 22, .pick (.t 18) (.c (.bool true)) (.t 21), none, []⟩]) (.cond (.t 22) (.seq (.reg false [⟨some 2, .mv (.c (.int .i64 5)), none, []⟩]) (.ret)) (.skip))) (.seq (.seq (.reg false [⟨some 23, .faddr 2 (.t 1), none, []⟩, ⟨some 24, .load false 1 (.t 23), none, []⟩, ⟨some 25, .len false (.t 24), none, []⟩, ⟨some 26, .faddr 3 (.t 1), none, []⟩, ⟨some 27, .load false 1 (.t 26), none, []⟩, ⟨some 28, .len false (.t 27), none, []⟩, ⟨some 29, .faddr 4 (.t 1), none, []⟩, ⟨some 30, .load false 1 (.t 29), none, []⟩, ⟨some 31, .len false (.t 30), none, []⟩, ⟨some 32, .max3 (.t 25) (.t 28) (.t 31), none, []⟩, ⟨some 33, .bin .gtr (.t 32) (.c (.int .i64 512)), none, []⟩]) (.cond (.t 33) (.seq (.reg false [⟨some 2, .mv (.c (.int .i64 14)), none, []⟩]) (.ret)) (.skip))) (.seq (.seq (.reg false [⟨some 34, .faddr 2 (.t 1), none, []⟩, ⟨some 35, .load false 1 (.t 34), none, []⟩, ⟨some 36, .len false (.t 35), none, []⟩, ⟨some 37, .mv (.c (.int .i64 0)), none, []⟩]) (.block 0 (.loop (.seq (.reg false [⟨some 38, .bin .lss (.t 37) (.t 36), none, []⟩]) (.seq (.cond (.t 38) (.skip) (.exit 0)) (.seq (.block 1 (.seq (.reg false [⟨some 39, .mv (.t 37), none, []⟩, ⟨some 40, .iaddr 13 (.t 35) (.t 37), none, []⟩, ⟨some 41, .load true 13 (.t 40), none, []⟩, ⟨some 4, .alloc 42 [.str [], .str [], .str [], .str [], .int .i64 0, .int .i64 0, .str [], .sl 0 .nil [], .sl 0 .nil [], .int .i64 0, .bool false, .bool false, .sl 0 .nil []], none, []⟩, ⟨some 3, .mv (.t 39), none, []⟩, ⟨none, .store 13 (.t 4) (.t 41), none, []⟩]) (.seq (.seq (.reg false [⟨some 42, .load true 13 (.t 4), none, []⟩, ⟨some 43, .call 40 [.t 42], none, []⟩, ⟨some 5, .mv (.t 43), none, []⟩]) (.seq (.reg false [⟨some 44, .mv (.t 5), none, []⟩, ⟨some 45, .bin .neq (.t 44) (.c (.int .i64 0)), none, []⟩]) (.cond (.t 45) (.seq (.reg false [⟨some 46, .mv (.t 5), none, []⟩, ⟨some 2, .mv (.t 46), none, []⟩]) (.ret)) (.skip)))) (.seq (.reg true [⟨some 47, .mv (.t 3), none, []⟩, ⟨some 48, .bin .gtr (.t 47) (.c (.int .i64 0)), none, [0]⟩, ⟨some 49, .mv (.t 48), none, [1]⟩, ⟨some 50, .faddr 2 (.t 1), some (49, true), [2]⟩, ⟨some 51, .load false 1 (.t 50), some (49, true), [3, 2]⟩, ⟨some 52, .mv (.t 3), some (49, true), [2]⟩, ⟨some 53, .bin .sub (.t 52) (.c (.int .i64 1)), some (49, true), [5, 2]⟩, ⟨some 54, .iaddr 13 (.t 51) (.t 53), some (49, true), [4, 6, 2]⟩, ⟨some 55, .load true 13 (.t 54), some (49, true), [7, 2]⟩, ⟨some 56, .call 41 [.t 55], some (49, true), [8, 2, 2]⟩, ⟨some 57, .load true 13 (.t 4), some (49, true), [2]⟩, ⟨some 58, .call 41 [.t 57], some (49, true), [10, 9, 2]⟩, ⟨some 59, .call 42 [.t 56, .t 58], some (49, true), [9, 11, 11, 2]⟩, ⟨some 60, .bin .geq (.t 59) (.c (.int .i64 0)), some (49, true), [12, 2]⟩, ⟨some 61, .pick (.t 49) (.t 60) (.c (.bool false)), none, [2, 13]⟩]) (.cond (.t 61) (.seq (.reg false [⟨some 2, .mv (.c (.int .i64 1)), none, []⟩]) (.ret)) (.skip)))))) (.reg false [⟨some 62, .bin .add (.t 37) (.c (.int .i64 1)), none, []⟩, ⟨some 37, .mv (.t 62), none, []⟩]))))))) (.seq (.seq (.reg false [⟨some 63, .faddr 3 (.t 1), none, []⟩, ⟨some 64, .load false 1 (.t 63), none, []⟩, ⟨some 65, .len false (.t 64), none, []⟩, ⟨some 66, .mv (.c (.int .i64 0)), none, []⟩]) (.block 2 (.loop (.seq (.reg false [⟨some 67, .bin .lss (.t 66) (.t 65), none, []⟩]) (.seq (.cond (.t 67) (.skip) (.exit 2)) (.seq (.block 3 (.seq (.reg false [⟨some 68, .mv (.t 66), none, []⟩, ⟨some 69, .iaddr 3 (.t 64) (.t 66), none, []⟩, ⟨some 70, .load true 3 (.t 69), none, []⟩, ⟨some 7, .alloc 95 [.str [], .str [], .str []], none, []⟩, ⟨some 6, .mv (.t 68), none, []⟩, ⟨none, .store 3 (.t 7) (.t 70), none, []⟩]) (.seq (.reg true [⟨some 71, .faddr 2 (.t 7), none, []⟩, ⟨some 72, .load false 1 (.t 71), none, [0]⟩, ⟨some 73, .call 39 [.t 72], none, [1]⟩, ⟨some 74, .un .not (.t 73), none, [2]⟩, ⟨some 75, .mv (.t 74), none, [3, 2]⟩, ⟨some 76, .faddr 0 (.t 7), some (75, false), [4]⟩, ⟨some 77, .load false 1 (.t 76), some (75, false), [5, 4]⟩, ⟨some 78, .faddr 1 (.t 7), some (75, false), [4]⟩, ⟨some 79, .load false 1 (.t 78), some (75, false), [7, 4]⟩, ⟨some 80, .call 43 [.t 77, .t 79], some (75, false), [6, 8, 4, 4]⟩, ⟨some 81, .un .not (.t 80), some (75, false), [9, 4]⟩, ⟨some 82, .pick (.t 75) (.c (.bool true)) (.t 81), none, [4, 10]⟩, ⟨some 83, .mv (.t 82), none, [11, 9]⟩, ⟨some 84, .mv (.t 6), some (83, false), [12]⟩, ⟨some 85, .bin .gtr (.t 84) (.c (.int .i64 0)), some (83, false), [13, 12]⟩, ⟨some 86, .mv (.t 85), some (83, false), [14, 12, 12]⟩, ⟨some 87, .faddr 3 (.t 1), some (86, true), [15]⟩, ⟨some 88, .load false 1 (.t 87), some (86, true), [16, 15]⟩, ⟨some 89, .mv (.t 6), some (86, true), [15]⟩, ⟨some 90, .bin .sub (.t 89) (.c (.int .i64 1)), some (86, true), [18, 15]⟩, ⟨some 91, .iaddr 3 (.t 88) (.t 90), some (86, true), [17, 19, 15]⟩, ⟨some 92, .faddr 2 (.t 91), some (86, true), [20, 15]⟩, ⟨some 93, .load false 1 (.t 92), some (86, true), [21, 15]⟩, ⟨some 94, .faddr 2 (.t 7), some (86, true), [15]⟩, ⟨some 95, .load false 1 (.t 94), some (86, true), [23, 15]⟩, ⟨some 96, .bin .geq (.t 93) (.t 95), some (86, true), [22, 24, 15]⟩, ⟨some 97, .pick (.t 86) (.t 96) (.c (.bool false)), some (83, false), [15, 25, 12]⟩, ⟨some 98, .pick (.t 83) (.c (.bool true)) (.t 97), none, [12, 26]⟩]) (.cond (.t 98) (.seq (.reg false [⟨some 2, .mv (.c (.int .i64 1)), none, []⟩]) (.ret)) (.skip))))) (.reg false [⟨some 99, .bin .add (.t 66) (.c (.int .i64 1)), none, []⟩, ⟨some 66, .mv (.t 99), none, []⟩]))))))) (.seq (.seq (.reg false [⟨some 100, .faddr 4 (.t 1), none, []⟩, ⟨some 101, .load false 1 (.t 100), none, []⟩, ⟨some 102, .len false (.t 101), none, []⟩, ⟨some 103, .mv (.c (.int .i64 0)), none, []⟩]) (.block 4 (.loop (.seq (.reg false [⟨some 104, .bin .lss (.t 103) (.t 102), none, []⟩]) (.seq (.cond (.t 104) (.skip) (.exit 4)) (.seq (.block 5 (.seq (.reg false [⟨some 105, .mv (.t 103), none, []⟩, ⟨some 106, .iaddr 7 (.t 101) (.t 103), none, []⟩, ⟨some 107, .load true 7 (.t 106), none, []⟩, ⟨some 9, .alloc 98 [.str [], .int .i64 0, .int .i64 0, .str [], .sl 0 .nil [], .sl 0 .nil [], .bool false], none, []⟩, ⟨some 8, .mv (.t 105), none, []⟩, ⟨none, .store 7 (.t 9) (.t 107), none, []⟩]) (.seq (.seq (.reg false [⟨some 108, .load true 7 (.t 9), none, []⟩, ⟨some 109, .call 44 [.t 108], none, []⟩, ⟨some 10, .mv (.t 109), none, []⟩]) (.seq (.reg false [⟨some 110, .mv (.t 10), none, []⟩, ⟨some 111, .bin .neq (.t 110) (.c (.int .i64 0)), none, []⟩]) (.cond (.t 111) (.seq (.reg false [⟨some 112, .mv (.t 10), none, []⟩, ⟨some 2, .mv (.t 112), none, []⟩]) (.ret)) (.skip)))) (.seq (.reg true [⟨some 113, .mv (.t 8), none, []⟩, ⟨some 114, .bin .gtr (.t 113) (.c (.int .i64 0)), none, [0]⟩, ⟨some 115, .mv (.t 114), none, [1]⟩, ⟨some 116, .faddr 4 (.t 1), some (115, true), [2]⟩, ⟨some 117, .load false 1 (.t 116), some (115, true), [3, 2]⟩, ⟨some 118, .mv (.t 8), some (115, true), [2]⟩, ⟨some 119, .bin .sub (.t 118) (.c (.int .i64 1)), some (115, true), [5, 2]⟩, ⟨some 120, .iaddr 7 (.t 117) (.t 119), some (115, true), [4, 6, 2]⟩, ⟨some 121, .faddr 0 (.t 120), some (115, true), [7, 2]⟩, ⟨some 122, .load false 1 (.t 121), some (115, true), [8, 2]⟩, ⟨some 123, .faddr 0 (.t 9), some (115, true), [2]⟩, ⟨some 124, .load false 1 (.t 123), some (115, true), [10, 2]⟩, ⟨some 125, .bin .geq (.t 122) (.t 124), some (115, true), [9, 11, 2]⟩, ⟨some 126, .pick (.t 115) (.t 125) (.c (.bool false)), none, [2, 12]⟩]) (.cond (.t 126) (.seq (.reg false [⟨some 2, .mv (.c (.int .i64 1)), none, []⟩]) (.ret)) (.skip)))))) (.reg false [⟨some 127, .bin .add (.t 103) (.c (.int .i64 1)), none, []⟩, ⟨some 103, .mv (.t 127), none, []⟩]))))))) (.seq (.reg false [⟨some 2, .mv (.c (.int .i64 0)), none, []⟩]) (.ret)))))))), [.t 2]⟩
theorem h_scheck : AX.compFn Tryz.prog 8 = some c_scheck := by kernel_rfl
theorem a_stext (s : List UInt8) (hs : s.length ≤ 2000000) (h : Hp) : ACall Tryz.prog GT 39 [.str s] h fun r h' => r = .bool (s != [] && Str.valid s) ∧ h' = h := by
 refine pcall ?_ rfl (by simp [A.pure, A.data]) h
 refine acall_of mixedT h_stext (by simp [c_stext]) ?_
 dsimp only [c_stext]
 rcases bool_or (s != []) with h1 | h1
 ·(refine AX.go0 h1 ?_)
  (refine AX.gc0 h1 ?_)
  refine (a_valid s hs _).mono ?_
  rintro v h1' ⟨rfl, rfl⟩
  (refine AX.go0 h1 ?_)
  exact ⟨_, le_refl _, by rw [tupA_1, h1]; rfl⟩
 ·(refine AX.go0 h1 ?_)
  exact ⟨_, le_refl _, by rw [tupA_1, h1]; rfl⟩
end AX
end Go.Proofs.YtnjkemakcejceaaGreatDoor

namespace Go.Proofs.YtnjkemakcejceaaGreatDoor
open Go.RowKit
set_option maxHeartbeats 4000000
namespace AX
def c_encode : AX.AFn := ⟨29, .seq (.reg false [⟨some 2, .box 26 (.t 0), none, []⟩, ⟨some 4, .mv (.c (.str [])), none, []⟩, ⟨some 5, .mv (.c (.int .i64 0)), none, []⟩]) (.seq (.seq (.reg false [⟨some 8, .load true 5 (.t 2), none, []⟩, ⟨some 9, .call 8 [.t 8], none, []⟩, ⟨some 6, .mv (.t 9), none, []⟩]) (.seq (.reg false [⟨some 10, .mv (.t 6), none, []⟩, ⟨some 11, .bin .neq (.t 10) (.c (.int .i64 0)), none, []⟩]) (.cond (.t 11) (.seq (.reg false [⟨some 12, .mv (.t 6), none, []⟩, ⟨some 4, .mv (.c (.str [])), none, []⟩, ⟨some 5, .mv (.t 12), none, []⟩]) (.ret)) (.skip)))) (.seq (.reg false [⟨some 13, .mv (.t 1), none, []⟩, ⟨some 14, .build [.nilp, .sl 0 .nil [], .int .i64 0] [(2, 1, .t 13)], none, []⟩, ⟨some 15, .box 142 (.t 14), none, []⟩, ⟨some 7, .mv (.t 15), none, []⟩]) (.seq (.reg false [⟨some 16, .mv (.t 7), none, []⟩, ⟨some 17, .load true 5 (.t 2), none, []⟩, ⟨some 18, .call 86 [.t 16, .t 17], none, []⟩]) (.seq (.seq (.reg false [⟨some 19, .mv (.t 7), none, []⟩, ⟨some 20, .nilck (.t 19), none, []⟩, ⟨some 21, .faddr 0 (.t 20), none, []⟩, ⟨some 22, .call 87 [.t 21], none, []⟩, ⟨some 23, .bin .gtr (.t 22) (.c (.int .i64 1048572)), none, []⟩]) (.cond (.t 23) (.seq (.reg false [⟨some 4, .mv (.c (.str [])), none, []⟩, ⟨some 5, .mv (.c (.int .i64 3)), none, []⟩]) (.ret)) (.skip))) (.seq (.reg false [⟨some 24, .mv (.t 7), none, []⟩, ⟨some 25, .nilck (.t 24), none, []⟩, ⟨some 26, .faddr 0 (.t 25), none, []⟩, ⟨some 27, .call 85 [.t 26], none, []⟩, ⟨some 28, .call 88 [.t 27], none, []⟩, ⟨some 4, .mv (.t 28), none, []⟩, ⟨some 5, .mv (.c (.int .i64 0)), none, []⟩]) (.ret)))))), [.t 4, .t 5]⟩
theorem h_encode : AX.compFn Tryz.prog 47 = some c_encode := by kernel_rfl
def c_Encode : AX.AFn := ⟨8, .seq (.reg false [⟨some 1, .box 26 (.t 0), none, []⟩, ⟨some 2, .mv (.c (.str [])), none, []⟩, ⟨some 3, .mv (.c (.int .i64 0)), none, []⟩]) (.seq (.reg false [⟨some 4, .load true 5 (.t 1), none, []⟩, ⟨some 5, .call 47 [.t 4, .c (.int .i64 2)], none, []⟩, ⟨some 6, .extract (.t 5) 0, none, []⟩, ⟨some 7, .extract (.t 5) 1, none, []⟩, ⟨some 2, .mv (.t 6), none, []⟩, ⟨some 3, .mv (.t 7), none, []⟩]) (.ret)), [.t 2, .t 3]⟩
theorem h_Encode : AX.compFn Tryz.prog 10 = some c_Encode := by kernel_rfl
def c_Decode : AX.AFn := ⟨64, .seq (.reg false [⟨some 2, .alloc 26 [.str [], .int .i64 0, .sl 0 .nil [], .sl 0 .nil [], .sl 0 .nil []], none, []⟩, ⟨some 3, .mv (.c (.int .i64 0)), none, []⟩]) (.seq (.seq (.reg false [⟨some 9, .mv (.t 0), none, []⟩, ⟨some 10, .len true (.t 9), none, []⟩, ⟨some 11, .bin .gtr (.t 10) (.c (.int .i64 1048576)), none, []⟩]) (.cond (.t 11) (.seq (.reg false [⟨some 12, .build [.str [], .int .i64 0, .sl 0 .nil [], .sl 0 .nil [], .sl 0 .nil []] [], none, []⟩, ⟨none, .store 5 (.t 2) (.t 12), none, []⟩, ⟨some 3, .mv (.c (.int .i64 3)), none, []⟩]) (.ret)) (.skip))) (.seq (.seq (.reg false [⟨some 13, .mv (.t 0), none, []⟩, ⟨some 14, .call 48 [.t 13, .c (.str [80, 86, 83, 84])], none, []⟩, ⟨some 15, .un .not (.t 14), none, []⟩]) (.cond (.t 15) (.seq (.reg false [⟨some 16, .build [.str [], .int .i64 0, .sl 0 .nil [], .sl 0 .nil [], .sl 0 .nil []] [], none, []⟩, ⟨none, .store 5 (.t 2) (.t 16), none, []⟩, ⟨some 3, .mv (.c (.int .i64 2)), none, []⟩]) (.ret)) (.skip))) (.seq (.reg false [⟨some 18, .mv (.t 0), none, []⟩, ⟨some 19, .call 49 [.t 18], none, []⟩, ⟨some 17, .mv (.t 19), none, []⟩, ⟨some 20, .extract (.t 17) 0, none, []⟩, ⟨some 21, .extract (.t 17) 1, none, []⟩, ⟨some 4, .mv (.t 20), none, []⟩, ⟨some 5, .mv (.t 21), none, []⟩]) (.seq (.seq (.reg false [⟨some 22, .mv (.t 5), none, []⟩, ⟨some 23, .bin .neq (.t 22) (.c (.int .i64 0)), none, []⟩]) (.cond (.t 23) (.seq (.reg false [⟨some 24, .build [.str [], .int .i64 0, .sl 0 .nil [], .sl 0 .nil [], .sl 0 .nil []] [], none, []⟩, ⟨none, .store 5 (.t 2) (.t 24), none, []⟩, ⟨some 3, .mv (.c (.int .i64 20)), none, []⟩]) (.ret)) (.skip))) (.seq (.reg false [⟨some 26, .mv (.t 4), none, []⟩, ⟨some 27, .call 45 [.t 26], none, []⟩, ⟨some 25, .mv (.t 27), none, []⟩, ⟨some 28, .extract (.t 25) 0, none, []⟩, ⟨some 29, .extract (.t 25) 1, none, []⟩, ⟨some 6, .mv (.t 28), none, []⟩, ⟨some 5, .mv (.t 29), none, []⟩]) (.seq (.seq (.reg false [⟨some 30, .mv (.t 5), none, []⟩, ⟨some 31, .bin .neq (.t 30) (.c (.int .i64 0)), none, []⟩]) (.cond (.t 31) (.seq (.reg false [⟨some 32, .build [.str [], .int .i64 0, .sl 0 .nil [], .sl 0 .nil [], .sl 0 .nil []] [], none, []⟩, ⟨some 33, .mv (.t 5), none, []⟩, ⟨none, .store 5 (.t 2) (.t 32), none, []⟩, ⟨some 3, .mv (.t 33), none, []⟩]) (.ret)) (.skip))) (.seq (.reg false [⟨some 34, .mv (.t 4), none, []⟩, ⟨some 35, .ssl (.t 34) (some (.c (.int .i64 4))) none, none, []⟩, ⟨some 36, .call 50 [.t 35], none, []⟩, ⟨some 37, .mv (.t 6), none, []⟩, ⟨some 38, .build [.nilp, .int .i64 0, .bool false] [(0, 1, .t 36), (1, 1, .t 37)], none, []⟩, ⟨some 39, .box 109 (.t 38), none, []⟩, ⟨some 7, .mv (.t 39), none, []⟩]) (.seq (.reg false [⟨some 40, .mv (.t 7), none, []⟩, ⟨some 41, .nilck (.t 40), none, []⟩, ⟨some 42, .faddr 0 (.t 41), none, []⟩, ⟨some 43, .load false 1 (.t 42), none, []⟩, ⟨some 44, .call 51 [.t 43], none, []⟩]) (.seq (.reg false [⟨some 45, .mv (.t 7), none, []⟩, ⟨some 46, .call 52 [.t 45], none, []⟩, ⟨some 8, .alloc 26 [.str [], .int .i64 0, .sl 0 .nil [], .sl 0 .nil [], .sl 0 .nil []], none, []⟩, ⟨none, .store 5 (.t 8) (.t 46), none, []⟩]) (.seq (.seq (.reg false [⟨some 47, .mv (.t 7), none, []⟩, ⟨some 48, .call 53 [.t 47], none, []⟩, ⟨some 49, .mv (.t 48), none, []⟩, ⟨some 50, .mv (.t 7), some (49, false), []⟩, ⟨some 51, .nilck (.t 50), some (49, false), []⟩, ⟨some 52, .faddr 0 (.t 51), some (49, false), []⟩, ⟨some 53, .load false 1 (.t 52), some (49, false), []⟩, ⟨some 54, .call 54 [.t 53], some (49, false), []⟩, ⟨some 55, .bin .gtr (.t 54) (.c (.int .i64 0)), some (49, false), []⟩, ⟨some 56, .pick (.t 49) (.c (.bool true)) (.t 55), none, []⟩, ⟨some 57, .mv (.t 56), none, []⟩, ⟨some 58, .load true 5 (.t 8), some (57, false), []⟩, ⟨some 59, .call 8 [.t 58], some (57, false), []⟩, ⟨some 60, .bin .neq (.t 59) (.c (.int .i64 0)), some (57, false), []⟩, ⟨some 61, .pick (.t 57) (.c (.bool true)) (.t 60), none, []⟩]) (.cond (.t 61) (.seq (.reg false [⟨some 62, .build [.str [], .int .i64 0, .sl 0 .nil [], .sl 0 .nil [], .sl 0 .nil []] [], none, []⟩, ⟨none, .store 5 (.t 2) (.t 62), none, []⟩, ⟨some 3, .mv (.c (.int .i64 2)), none, []⟩]) (.ret)) (.skip))) (.seq (.reg false [⟨some 63, .load true 5 (.t 8), none, []⟩, ⟨none, .store 5 (.t 2) (.t 63), none, []⟩, ⟨some 3, .mv (.c (.int .i64 0)), none, []⟩]) (.ret)))))))))))), [.c 2 true 5, .t 3]⟩
theorem h_Decode : AX.compFn Tryz.prog 12 = some c_Decode := by kernel_rfl
theorem a_csAppend (s : List UInt8) (hs : s.length ≤ 1000000000) (h : Hp) : ACall Tryz.prog GT 88 [.str s] h fun v h' => v = .str (Crc.app s) ∧ h' = h :=
 acall_imp (args1 r_str) (fun w hg => append_any ⟨s.toArray⟩ w (by rw [size_mk]; exact hs)) (fun C => rep_str.2 rfl) h
theorem a_csVerify (s : List UInt8) (hs : s.length ≤ 1000000000) (h : Hp) : ACall Tryz.prog GT 49 [.str s] h fun v h' => v = .tup [.str (Crc.ver s).1, .int .i64 (Crc.ver s).2] ∧ h' = h :=
 acall_imp (args1 r_str) (fun w hg => verify_any ⟨s.toArray⟩ w (by rw [size_mk]; exact hs)) (fun C => rep_tup.2 ⟨_, rfl, repL_cons.2 ⟨_, _, rfl, rep_str.2 rfl, repL_cons.2 ⟨_, _, rfl, rep_int.2 rfl, repL_nil.2 rfl⟩⟩⟩) h
def stE : A := .agg [.str [], .int .i64 0, .sl 0 .nil [], .sl 0 .nil [], .sl 0 .nil []]
end AX
end Go.Proofs.YtnjkemakcejceaaGreatDoor

namespace Go.Proofs.YtnjkemakcejceaaGreatDoor
open Go.RowKit
set_option maxHeartbeats 4000000
namespace Sf
def zero : St := ⟨[], 0, [], [], []⟩
def encode (ver : Int) (st : St) : List UInt8 × Int :=
 if checkZ st ≠ 0 then ([], checkZ st) else if 1048572 < (stE ver st).length then ([], 3) else (Crc.app (stE ver st), 0)
def decode (s : List UInt8) : St × Int :=
 if 1048576 < s.length then (zero, 3)
 else if AX.preB s = false then (zero, 2)
 else if (Crc.ver s).2 ≠ 0 then (zero, 20)
 else if (AX.versionS (Crc.ver s).1).2 ≠ 0 then (zero, (AX.versionS (Crc.ver s).1).2)
 else
  let r := stateS (AX.versionS (Crc.ver s).1).1 ⟨(Wire.numR ⟨(Crc.ver s).1.drop 4, 0⟩).1, false⟩
  if r.1.fails || decide (0 < r.1.r.rest.length) || checkZ r.2 != 0 then (zero, 2) else (r.2, 0)
end Sf
namespace AX
def SCheck (st : Sf.St) : Prop := ∀ h, ACall Tryz.prog GT 8 [st.A] h fun r h' => r = .int .i64 (Sf.checkZ st) ∧ h' = h
theorem w_statei {ver : Int} (hver : ver = 1 ∨ ver = 2) (st : Sf.St) (ok : Sf.StOk st) (hlen : (Sf.stE ver st).length + 20 ≤ 1000000000) {h : Hp} {i : Nat} (hb : h.b[i]? = some (.cells 142 [.nilp, .sl 0 .nil [], .int .i64 ver])) :
  ACall Tryz.prog GT 86 [.ptr i 0, st.A] h fun u h' => u = .tup [] ∧ h' = ⟨h.b.set i (wtr ver (Sf.stE ver st)), h.t⟩ := by
 refine (ACall.lift1 (w_state hver st ok hlen) rfl (by intros; rfl) ?_ hb).mono ?_
 ·rintro u b' ⟨rfl, rfl⟩
  exact ⟨rfl, wtr_loc _ _⟩
 ·rintro u h' ⟨b', ⟨rfl, rfl⟩, rfl⟩
  exact ⟨rfl, rfl⟩
theorem stE_ne (ver : Int) (st : Sf.St) : Sf.stE ver st ≠ [] := by
 unfold Sf.stE Sf.magic
 simp
theorem a_encode {ver : Int} (hver : ver = 1 ∨ ver = 2) (st : Sf.St) (hck : SCheck st) (hok : Sf.checkZ st = 0 → Sf.StOk st ∧ (Sf.stE ver st).length + 20 ≤ 1000000000) (h : Hp) :
  ACall Tryz.prog GT 47 [st.A, .int .i64 ver] h fun r h' => r = .tup [.str (Sf.encode ver st).1, .int .i64 (Sf.encode ver st).2] ∧ h' = h := by
 refine pcall ?_ rfl (by simp [A.pure, A.data, Sf.St.A]) h
 refine acall_of mixedT h_encode (by simp [c_encode]) ?_
 dsimp only [c_encode]
 have hw := fun h hb hz => w_statei hver st (hok hz).1 (hok hz).2 (h := h) (i := 1) hb
 have hE : Sf.encode ver st = if Sf.checkZ st ≠ 0 then ([], Sf.checkZ st) else if 1048572 < (Sf.stE ver st).length then ([], 3) else (Crc.app (Sf.stE ver st), 0) := rfl
 unfold SCheck at hck
 unfold Sf.St.A at hck hw ⊢
 by_cases hz : Sf.checkZ st = 0
 ·have e1 : (Sf.checkZ st != 0) = false := by simp [hz]
  rw [if_neg (by simp [hz])] at hE
  (refine AX.run0 True.intro ?_)
  refine use (hck _) ?_
  (refine AX.run0 e1 ?_)
  refine use (hw _ rfl hz) ?_
  (refine AX.run0 True.intro ?_)
  refine use (a_wlen (i := 1) (ver := ver) (l := Sf.stE ver st) (.inl rfl)) ?_
  by_cases hl : ((Sf.stE ver st).length : Int) > 1048572
  ·rw [if_pos (by omega)] at hE
   (refine AX.run0 hl ?_)
   exact ⟨_, le_refl _, by rw [hE]; rfl⟩
  ·rw [if_neg (by omega)] at hE
   (refine AX.run0 hl ?_)
   refine use (a_wstring (i := 1) (ver := ver) (l := Sf.stE ver st) (.inl rfl) (stE_ne _ _)) ?_
   (refine AX.run0 True.intro ?_)
   refine use (a_csAppend _ (by omega) _) ?_
   (refine AX.run0 True.intro ?_)
   exact ⟨_, le_refl _, by rw [hE]; rfl⟩
 ·have e1 : (Sf.checkZ st != 0) = true := by simp [hz]
  rw [if_pos hz] at hE
  (refine AX.run0 True.intro ?_)
  refine use (hck _) ?_
  (refine AX.run0 e1 ?_)
  exact ⟨_, le_refl _, by rw [hE]; rfl⟩
theorem a_Encode (st : Sf.St) (hck : SCheck st) (hok : Sf.checkZ st = 0 → Sf.StOk st ∧ (Sf.stE 2 st).length + 20 ≤ 1000000000) (h : Hp) :
  ACall Tryz.prog GT 10 [st.A] h fun r h' => r = .tup [.str (Sf.encode 2 st).1, .int .i64 (Sf.encode 2 st).2] ∧ h' = h := by
 refine pcall ?_ rfl (by simp [A.pure, A.data, Sf.St.A]) h
 refine acall_of mixedT h_Encode (by simp [c_Encode]) ?_
 dsimp only [c_Encode]
 have he := fun h => a_encode (.inr rfl) st hck hok h
 unfold Sf.St.A at he ⊢
 (refine AX.run0 True.intro ?_)
 refine use (he _) ?_
 (refine AX.run0 True.intro ?_)
 exact ⟨_, le_refl _, rfl⟩
theorem liftD {P : Program} {G : World → Prop} {f : FuncId} {args : List A} {ver : Int} {s s' : Sf.Rs} {v : A} (hc : ACall P G f (.ptr 0 0 :: args) ⟨[RB ver s.bad, rdr s.r], []⟩ fun v' h' => v' = v ∧ h' = ⟨[RB ver s'.bad, rdr s'.r], []⟩) (ha : A.locL 0 args = true) (hv : v.loc 0 = true) (z : Blk) (l : List Blk) (t : List (TypeId × Nat × Nat)) :
  ACall P G f (.ptr 2 0 :: args) ⟨z :: rdr s.r :: RB ver s.bad :: l, t⟩ fun v' h' => v' = v ∧ h' = ⟨z :: rdr s'.r :: RB ver s'.bad :: l, t⟩ := by
 have key := ACall.lift hc (fun i => if i = 0 then 2 else i) (fun a b ha hb e => by
   simp only [List.length_cons, List.length_nil] at ha hb
   have h1 : a = 0 ∨ a = 1 := by omega
   have h2 : b = 0 ∨ b = 1 := by omega
   rcases h1 with rfl | rfl <;> rcases h2 with rfl | rfl <;> simp at e ⊢) (by unfold A.locL; rw [(A.locL0 _ args ha).1]; rfl)
  (fun x hx => by
   rcases List.mem_cons.1 hx with rfl | hx
   ·rfl
   ·rw [List.mem_singleton.1 hx]; rfl)
  (fun v' h' ⟨e, h0⟩ => ⟨by rw [e]; exact (A.loc0 _ v hv).1, fun j x hj hx => by
   have : j = 0 ∨ j = 1 := by simp only [List.length_cons, List.length_nil] at hj; omega
   rw [h0] at hx
   rcases this with rfl | rfl
   ·simp only [List.getElem?_cons_zero] at hx; injection hx with hx; subst hx; rfl
   ·simp only [List.getElem?_cons_zero, List.getElem?_cons_succ] at hx; injection hx with hx; subst hx; rfl⟩)
  (h := ⟨z :: rdr s.r :: RB ver s.bad :: l, t⟩) (fun j hj => by
   have : j = 0 ∨ j = 1 := by simp only [List.length_cons, List.length_nil] at hj; omega
   rcases this with rfl | rfl <;> rfl)
 have e : A.renL (fun i => if i = 0 then 2 else i) (.ptr 0 0 :: args) = .ptr 2 0 :: args := by unfold A.renL; rw [(A.locL0 0 args ha).2]; rfl
 rw [e] at key
 refine key.mono ?_
 rintro v' h' ⟨v0, h0, ⟨rfl, rfl⟩, rfl, rfl⟩
 exact ⟨(A.loc0 0 _ hv).2 _, rfl⟩
theorem versionS_12 {s : List UInt8} (h : (versionS s).2 = 0) : (versionS s).1 = 1 ∨ (versionS s).1 = 2 := by
 unfold versionS at h ⊢
 split at h
 ·cases h
 ·rename_i h1
  rw [if_neg h1]
  dsimp only at h ⊢
  split at h
  ·cases h
  ·rename_i h2
   rw [if_neg h2]
   split at h
   ·cases h
   ·rename_i h3
    rw [if_neg h3]
    dsimp only
    omega
theorem a_Decode (s : List UInt8) (hlen : s.length ≤ 1000000000) (hvl : (Crc.ver s).1.length ≤ s.length) (hck : ∀ ver r, r.rest.length ≤ s.length → SCheck (Sf.stateS ver ⟨r, false⟩).2) (h : Hp) :
  ACall Tryz.prog GT 12 [.str s] h fun r h' => r = .tup [(Sf.decode s).1.A, .int .i64 (Sf.decode s).2] ∧ h' = h := by
 refine pcall ?_ rfl (by simp [A.pure, A.data]) h
 refine acall_of mixedT h_Decode (by simp [c_Decode]) ?_
 dsimp only [c_Decode]
 obtain ⟨D, hD⟩ : ∃ D, Sf.decode s = D := ⟨_, rfl⟩
 rw [hD]
 unfold Sf.decode at hD
 have hzA : Sf.zero.A = .agg [.str [], .int .i64 0, .sl 13 .no [], .sl 3 .no [], .sl 7 .no []] := rfl
 have hz : ∀ e : Int, le (.tup [.agg [.str [], .int .i64 0, .sl 0 .nil [], .sl 0 .nil [], .sl 0 .nil []], .int .i64 e]) (.tup [Sf.zero.A, .int .i64 e]) := fun e => ⟨⟨le1_refl _, le1_refl _, ⟨rfl, .inr rfl, .inl rfl⟩, ⟨rfl, .inr rfl, .inl rfl⟩, ⟨rfl, .inr rfl, .inl rfl⟩, trivial⟩, rfl, trivial⟩
 by_cases hl : (s.length : Int) > 1048576
 ·rw [if_pos (by omega)] at hD
  (refine AX.run0 hl ?_)
  exact ⟨_, hz _, by subst hD; rfl⟩
 rw [if_neg (by omega)] at hD
 (refine AX.run0 hl ?_)
 refine use (a_hasPrefix s magic _) ?_
 by_cases hp : preB s = false
 ·rw [if_pos hp] at hD
  unfold preB at hp
  (refine AX.run0 hp ?_)
  exact ⟨_, hz _, by subst hD; rfl⟩
 rw [if_neg hp] at hD
 have hp' : (decide (magic.length ≤ s.length) && s.take magic.length == magic) = true := by unfold preB at hp; simpa using hp
 (refine AX.run0 hp' ?_)
 refine use (a_csVerify s hlen _) ?_
 obtain ⟨⟨b, e⟩, hv⟩ : ∃ q, Crc.ver s = q := ⟨_, rfl⟩
 rw [hv] at hD hvl ⊢
 dsimp only at hD hvl ⊢
 by_cases he : e = 0
 rotate_left
 ·have e1 : (e != 0) = true := by simp [he]
  rw [if_pos he] at hD
  (refine AX.run0 e1 ?_)
  exact ⟨_, hz _, by subst hD; rfl⟩
 have e1 : (e != 0) = false := by simp [he]
 rw [if_neg (by simp [he])] at hD
 (refine AX.run0 e1 ?_)
 refine use (a_version b (by omega) _) ?_
 have h12 := @versionS_12 b
 obtain ⟨⟨n, e2⟩, hn⟩ : ∃ q, versionS b = q := ⟨_, rfl⟩
 rw [hn] at hD h12 ⊢
 dsimp only at hD h12 ⊢
 by_cases he2 : e2 = 0
 rotate_left
 ·have e3 : (e2 != 0) = true := by simp [he2]
  rw [if_pos he2] at hD
  (refine AX.run0 e3 ?_)
  exact ⟨_, hz _, by subst hD; rfl⟩
 have e3 : (e2 != 0) = false := by simp [he2]
 rw [if_neg (by simp [he2])] at hD
 have hb4 : 4 ≤ b.length := by
  have hp4 : preB b = true := by
   rcases bool_or (preB b) with h1 | h1
   ·first | exact h1 | (exfalso; unfold versionS at hn; rw [if_pos h1] at hn; injection hn with _ hn; omega)
   ·first | exact h1 | (exfalso; unfold versionS at hn; rw [if_pos h1] at hn; injection hn with _ hn; omega)
  unfold preB at hp4
  have hml : magic.length = 4 := rfl
  simp only [Bool.and_eq_true, decide_eq_true_eq, hml] at hp4
  exact hp4.1
 have hb5 : (4 : Int) ≤ (b.length : Int) := by omega
 (refine AX.run0 (And.intro e3 hb5) ?_)
 refine use (a_newReader (b.drop 4) _) ?_
 (refine AX.run0 True.intro ?_)
 refine use (a_number (i := 1) (r := ⟨b.drop 4, 0⟩) rfl (by rw [List.length_drop]; omega)) ?_
 have hql := Wire.numR_rest ⟨b.drop 4, 0⟩
 obtain ⟨⟨q, qn⟩, hq⟩ : ∃ x, Wire.numR ⟨b.drop 4, 0⟩ = x := ⟨_, rfl⟩
 rw [hq] at hD hql ⊢
 dsimp only at hD hql ⊢
 rw [List.length_drop] at hql
 have cs := liftD (a_rstate (h12 he2) ⟨q, false⟩ (by dsimp only; omega) [] []) rfl rfl (.cells 26 [.str [], .int .i64 0, .sl 0 .nil [], .sl 0 .nil [], .sl 0 .nil []]) [] []
 have hc := hck n q (by omega)
 obtain ⟨⟨⟨r, bad⟩, st⟩, hs⟩ : ∃ x, Sf.stateS n ⟨q, false⟩ = x := ⟨_, rfl⟩
 rw [hs] at cs hc hD
 unfold SCheck at hc
 unfold Sf.St.A at cs hc
 unfold RB at cs
 dsimp only at cs hc hD
 have cf := liftD (a_rfails (ver := n) ⟨r, bad⟩ [] []) rfl rfl (.cells 26 [.str [], .int .i64 0, .sl 0 .nil [], .sl 0 .nil [], .sl 0 .nil []]) [.cells 26 [.str st.lin, .int .i64 st.ser, .sl 13 .no (st.insts.map Sf.Inst.cells), .sl 3 .no (st.pends.map Sf.Pend.cells), .sl 7 .no (st.outs.map Sf.Outp.cells)]] []
 unfold RB at cf
 dsimp only at cf
 (refine AX.run0 True.intro ?_)
 refine use cs ?_
 (refine AX.run0 True.intro ?_)
 refine use cf ?_
 obtain ⟨F, hF⟩ : ∃ F, (⟨r, bad⟩ : Sf.Rs).fails = F := ⟨_, rfl⟩
 rw [hF] at hD ⊢
 cases F
 rotate_left
 ·rw [if_pos (by simp only [Bool.true_or])] at hD
  (refine AX.run0 True.intro ?_)
  exact ⟨_, hz _, by subst hD; rfl⟩
 simp only [Bool.false_or] at hD
 (refine AX.run0 True.intro ?_)
 refine use (a_left (i := 1) (r := r) rfl) ?_
 by_cases hL : (r.rest.length : Int) > 0
 ·rw [decide_eq_true (show 0 < r.rest.length by omega), if_pos (by simp only [Bool.true_or])] at hD
  (refine AX.run0 hL ?_)
  exact ⟨_, hz _, by subst hD; rfl⟩
 have hL2 : decide (0 < r.rest.length) = false := decide_eq_false (by omega)
 simp only [hL2, Bool.false_or] at hD
 (refine AX.run0 hL ?_)
 refine use (hc _) ?_
 by_cases hk : Sf.checkZ st = 0
 ·have e4 : (Sf.checkZ st != 0) = false := by simp [hk]
  rw [if_neg (by simp [e4])] at hD
  (refine AX.run0 e4 ?_)
  exact ⟨_, le_refl _, by subst hD; rfl⟩
 ·have e4 : (Sf.checkZ st != 0) = true := by simp [hk]
  rw [if_pos e4] at hD
  (refine AX.run0 e4 ?_)
  exact ⟨_, hz _, by subst hD; rfl⟩
end AX
end Go.Proofs.YtnjkemakcejceaaGreatDoor

namespace Go.Proofs.YtnjkemakcejceaaGreatDoor
open Go.RowKit
namespace AX
structure Sto where
 key : List UInt8
 lin : List UInt8
 latest : Int
 es : List (Int × List UInt8)
 c : Nat
 own : List UInt8
 left : Int
def strM (es : List (Int × List UInt8)) : List (Int × A) := es.map fun e => (e.1, .str e.2)
def lfind (n : Int) : List (Int × List UInt8) → Option (List UInt8)
 | [] => none
 | (k, x) :: l => if n = k then some x else lfind n l
def lput (n : Int) (x : List UInt8) : List (Int × List UInt8) → List (Int × List UInt8)
 | [] => [(n, x)]
 | (k, y) :: l => if n = k then (n, x) :: l else (k, y) :: lput n x l
def lerase (n : Int) : List (Int × List UInt8) → List (Int × List UInt8)
 | [] => []
 | (k, y) :: l => if n = k then l else (k, y) :: lerase n l
theorem mfind_str (n : Int) : ∀ es, mfind n (strM es) = (lfind n es).map A.str
 | [] => rfl
 | (k, x) :: l => by
  show (if n = k then some (A.str x) else mfind n (strM l)) = _
  unfold lfind
  split
  ·rfl
  ·exact mfind_str n l
theorem mput_str (n : Int) (x : List UInt8) : ∀ es, mput n (.str x) (strM es) = strM (lput n x es)
 | [] => rfl
 | (k, y) :: l => by
  show (if n = k then (n, A.str x) :: strM l else (k, .str y) :: mput n (.str x) (strM l)) = _
  unfold lput
  split
  ·rfl
  ·rw [mput_str n x l]; rfl
theorem merase_str (n : Int) : ∀ es, merase n (strM es) = strM (lerase n es)
 | [] => rfl
 | (k, y) :: l => by
  show (if n = k then strM l else (k, .str y) :: merase n (strM l)) = _
  unfold lerase
  split
  ·rfl
  ·rw [merase_str n l]; rfl
def Sto.M (s : Sto) : Blk := .map (strM s.es) s.c
def Sto.B (s : Sto) : Blk := .cells 79 [.str s.key, .str s.lin, .int .i64 s.latest, .mp 0, .str s.own, .int .i64 s.left]
theorem Sto.M_loc (s : Sto) : s.M.loc 2 ∧ s.M.ren (fun i => i) = s.M := by
 have h : s.M.loc 0 := by
  show ((strM s.es).all fun e => e.2.loc 0) = true
  rw [List.all_eq_true]
  intro e he
  obtain ⟨x, hx, rfl⟩ := List.mem_map.1 he
  rfl
 exact ⟨(Blk.loc0 2 _ h).1, (Blk.loc0 0 _ h).2 _⟩
theorem liftS {P : Program} {G : World → Prop} {f : FuncId} {args : List A} {s s' : Sto} {v : A} (hc : ACall P G f (.ptr 1 0 :: args) ⟨[s.M, s.B], []⟩ fun v' h' => v' = v ∧ h'.b[0]? = some s'.M ∧ h'.b[1]? = some s'.B) (ha : A.locL 0 args = true) (hv : v.loc 0 = true) (l : List Blk) (t : List (TypeId × Nat × Nat)) :
  ACall P G f (.ptr 1 0 :: args) ⟨s.M :: s.B :: l, t⟩ fun v' h' => v' = v ∧ h' = ⟨s'.M :: s'.B :: l, t⟩ := by
 have key := ACall.lift hc (fun i => i) (fun a b _ _ e => e) (by unfold A.locL; rw [(A.locL0 _ args ha).1]; rfl)
  (fun x hx => by
   rcases List.mem_cons.1 hx with rfl | hx
   ·exact s.M_loc.1
   ·rw [List.mem_singleton.1 hx]; rfl)
  (fun v' h' ⟨e, h0, h1⟩ => ⟨by rw [e]; exact (A.loc0 _ v hv).1, fun j x hj hx => by
   have : j = 0 ∨ j = 1 := by simp only [List.length_cons, List.length_nil] at hj; omega
   rcases this with rfl | rfl
   ·rw [h0] at hx; injection hx with hx; subst hx; exact s'.M_loc.1
   ·rw [h1] at hx; injection hx with hx; subst hx; rfl⟩)
  (h := ⟨s.M :: s.B :: l, t⟩) (fun j hj => by
   have : j = 0 ∨ j = 1 := by simp only [List.length_cons, List.length_nil] at hj; omega
   rcases this with rfl | rfl
   ·show some s.M = some (s.M.ren fun i => i); rw [s.M_loc.2]
   ·rfl)
 have e : A.renL (fun i => i) (.ptr 1 0 :: args) = .ptr 1 0 :: args := by unfold A.renL; rw [(A.locL0 0 args ha).2]; rfl
 rw [e] at key
 refine key.mono ?_
 rintro v' h' ⟨v0, ⟨b0, t0⟩, ⟨rfl, h0, h1⟩, rfl, rfl⟩
 refine ⟨(A.loc0 0 _ hv).2 _, ?_⟩
 match b0, h0, h1 with
 | x :: y :: b, h0, h1 =>
  simp only [List.getElem?_cons_zero, List.getElem?_cons_succ, Option.some.injEq] at h0 h1
  subst h0; subst h1
  simp only [List.length_cons, List.length_nil, List.take_succ_cons, List.take_zero, setAll, s'.M_loc.2]
  rfl
namespace Sto
def txt (s : List UInt8) : Bool := s != [] && Str.valid s
def lock (s : Sto) (who : List UInt8) (n : Int) : Sto × Int :=
 if (txt who && decide (1 ≤ n) && decide (n ≤ 1099511627776)) = false then (s, 1)
 else if (s.own != [] && s.own != who) = true then (s, 24)
 else ({ s with own := who, left := n }, 0)
def holds (s : Sto) (who : List UInt8) : Bool := s.own != [] && s.own == who
def tick (s : Sto) (n : Int) : Sto :=
 if n ≤ 0 ∨ s.own = [] then s
 else if s.left - (if s.left < n then s.left else n) = 0 then { s with own := [], left := 0 } else { s with left := s.left - (if s.left < n then s.left else n) }
def keep (s : Sto) (st : Sf.St) : Sto × Int :=
 if (Sf.encode 2 st).2 ≠ 0 then (s, (Sf.encode 2 st).2)
 else if (Seal.enc s.key (IntKind.u64.wrap st.ser) (Sf.encode 2 st).1).2 ≠ 0 then (s, (Seal.enc s.key (IntKind.u64.wrap st.ser) (Sf.encode 2 st).1).2)
 else ({ s with latest := st.ser, es := lerase (IntKind.i64.wrap (st.ser - 64)) (lput st.ser (Seal.enc s.key (IntKind.u64.wrap st.ser) (Sf.encode 2 st).1).1 s.es), c := mclock st.ser (strM s.es) s.c }, 0)
def write (s : Sto) (who : List UInt8) (st : Sf.St) : Sto × Int :=
 if s.holds who = false then (s, 25) else if st.lin ≠ s.lin then (s, 23) else if st.ser ≠ IntKind.i64.wrap (s.latest + 1) then (s, 22) else s.keep st
def plain (s : Sto) (n : Int) : List UInt8 × Int := match lfind n s.es with
 | none => ([], 9)
 | some b => Seal.dec s.key b
def at' (s : Sto) (n : Int) : Sf.St × Int :=
 if (s.plain n).2 ≠ 0 then (Sf.zero, (s.plain n).2)
 else
  let d := Sf.decode (s.plain n).1
  if d.2 = 0 then (d.1, Sf.checkZ d.1) else d
end Sto
end AX
end Go.Proofs.YtnjkemakcejceaaGreatDoor

namespace Go.Proofs.YtnjkemakcejceaaGreatDoor
open Go.RowKit
namespace AX
theorem evM {A F : Prop} (f : F) (h : F → A := by intro f; simp only [put_app, put_none, init_app, evX_t, evX_c, resA_nil, resA_t, resA_c, tupA_0, tupA_1, tupA_2, astep, bop, uop, loadA, storeA, appA, ssliceA, eqA, eqCells, fillA, rowsA, setCells, A.cells, A.one, A.data, optP_some, List.all_cons, List.all_nil, Bool.and_true, Bool.true_and, Bool.false_and, Option.map_some, Option.map_none, Option.bind_some, Option.bind_none, Option.getD_some, Option.getD_none, List.map_cons, List.map_nil, List.getD_cons_zero, List.getD_cons_succ, List.getElem?_cons_zero, List.getElem?_cons_succ, List.getElem?_concat_length, get_p1, get_p2, set_p0, set_p1, set_p2, get_q1, get_q2, get_q3, set_q1, set_q2, set_q3, List.length_cons, List.length_nil, List.nil_append, List.cons_append, List.append_nil, List.set_cons_zero, List.set_cons_succ, List.drop_zero, List.drop_succ_cons, List.take_succ_cons, List.take_zero, List.take_nil, List.take_length, List.length_append, List.length_set, Nat.reduceAdd, Nat.reduceSub, Nat.reduceMul, Nat.reduceLeDiff, Nat.reduceEqDiff, Nat.reduceBEq, Int.toNat_natCast, Int.natCast_nonneg, Int.reduceBEq, Int.reduceBNe, Int.reduceLT, Int.reduceLE, Int.reduceEq, Int.le_refl, Int.toNat_zero, if_true, if_false, reduceIte, ite_true, ite_false, true_and, and_true, ne_eq, not_true_eq_false, not_false_eq_true, Bool.false_eq_true, reduceCtorEq, and_self, Nat.zero_add, Nat.add_zero, Nat.le_refl, Bool.not_true, Bool.not_false, and_self, decide_true, decide_false, beq_self_eq_true, bne_self_eq_false, rowsR, List.flatten_cons, List.flatten_nil, mgetA, msetA, mdelA, mclrA, mlenA, mgetV, Option.isSome_some, Option.isSome_none, Bool.false_eq_true, if_true, if_false, f] <;> with_reducible rfl) : A := h f
theorem euM {A F : Prop} (f : F) (h : F → A := by intro f; simp only [put_app, put_none, init_app, evX_t, evX_c, resA_nil, resA_t, resA_c, tupA_0, tupA_1, tupA_2, astep, bop, uop, loadA, storeA, appA, ssliceA, eqA, eqCells, fillA, rowsA, setCells, A.cells, A.one, A.data, optP_some, List.all_cons, List.all_nil, Bool.and_true, Bool.true_and, Bool.false_and, Option.map_some, Option.map_none, Option.bind_some, Option.bind_none, Option.getD_some, Option.getD_none, List.map_cons, List.map_nil, List.getD_cons_zero, List.getD_cons_succ, List.getElem?_cons_zero, List.getElem?_cons_succ, List.getElem?_concat_length, get_p1, get_p2, set_p0, set_p1, set_p2, get_q1, get_q2, get_q3, set_q1, set_q2, set_q3, List.length_cons, List.length_nil, List.nil_append, List.cons_append, List.append_nil, List.set_cons_zero, List.set_cons_succ, List.drop_zero, List.drop_succ_cons, List.take_succ_cons, List.take_zero, List.take_nil, List.take_length, List.length_append, List.length_set, Nat.reduceAdd, Nat.reduceSub, Nat.reduceMul, Nat.reduceLeDiff, Nat.reduceEqDiff, Nat.reduceBEq, Int.toNat_natCast, Int.natCast_nonneg, Int.reduceBEq, Int.reduceBNe, Int.reduceLT, Int.reduceLE, Int.reduceEq, Int.le_refl, Int.toNat_zero, if_true, if_false, reduceIte, ite_true, ite_false, true_and, and_true, ne_eq, not_true_eq_false, not_false_eq_true, Bool.false_eq_true, reduceCtorEq, and_self, Nat.zero_add, Nat.add_zero, Nat.le_refl, Bool.not_true, Bool.not_false, and_self, decide_true, decide_false, beq_self_eq_true, bne_self_eq_false, rowsR, List.flatten_cons, List.flatten_nil, mgetA, msetA, mdelA, mclrA, mlenA, mgetV, Option.isSome_some, Option.isSome_none, Bool.false_eq_true, if_true, if_false, f]; rw [if_pos (by first | omega | (refine ⟨?_, ?_⟩ <;> omega) | (simp only [true_and, and_true]; omega))]; with_reducible rfl) : A := h f
theorem inwM {A F : Prop} (f : F) (h : F → A := by intro f; simp only [put_app, put_none, init_app, evX_t, evX_c, resA_nil, resA_t, resA_c, tupA_0, tupA_1, tupA_2, astep, bop, uop, loadA, storeA, appA, ssliceA, eqA, eqCells, fillA, rowsA, setCells, A.cells, A.one, A.data, optP_some, List.all_cons, List.all_nil, Bool.and_true, Bool.true_and, Bool.false_and, Option.map_some, Option.map_none, Option.bind_some, Option.bind_none, Option.getD_some, Option.getD_none, List.map_cons, List.map_nil, List.getD_cons_zero, List.getD_cons_succ, List.getElem?_cons_zero, List.getElem?_cons_succ, List.getElem?_concat_length, get_p1, get_p2, set_p0, set_p1, set_p2, get_q1, get_q2, get_q3, set_q1, set_q2, set_q3, List.length_cons, List.length_nil, List.nil_append, List.cons_append, List.append_nil, List.set_cons_zero, List.set_cons_succ, List.drop_zero, List.drop_succ_cons, List.take_succ_cons, List.take_zero, List.take_nil, List.take_length, List.length_append, List.length_set, Nat.reduceAdd, Nat.reduceSub, Nat.reduceMul, Nat.reduceLeDiff, Nat.reduceEqDiff, Nat.reduceBEq, Int.toNat_natCast, Int.natCast_nonneg, Int.reduceBEq, Int.reduceBNe, Int.reduceLT, Int.reduceLE, Int.reduceEq, Int.le_refl, Int.toNat_zero, if_true, if_false, reduceIte, ite_true, ite_false, true_and, and_true, ne_eq, not_true_eq_false, not_false_eq_true, Bool.false_eq_true, reduceCtorEq, and_self, Nat.zero_add, Nat.add_zero, Nat.le_refl, Bool.not_true, Bool.not_false, and_self, decide_true, decide_false, beq_self_eq_true, bne_self_eq_false, rowsR, List.flatten_cons, List.flatten_nil, mgetA, msetA, mdelA, mclrA, mlenA, mgetV, Option.isSome_some, Option.isSome_none, Bool.false_eq_true, if_true, if_false, forH, pastN, obsP, obsD, obsN, memN, Bool.false_or, Bool.true_or, Bool.or_false, Bool.or_true, true_or, or_true, false_or, or_false, f] <;> exact True.intro) : A := h f
theorem runM {A B F : Prop} (f : F) (k : B) (h : F → B → A := by intro f k; (repeat (first | with_reducible refine go_seq ?_ | with_reducible refine go_regS ?_ | with_reducible refine gs_nil ?_ | with_reducible refine go_tn ?_ | with_reducible refine go_sk ?_ | with_reducible refine go_blk ?_ | with_reducible refine go_exit ?_ | with_reducible refine go_ret ?_ | with_reducible refine go_tr ?_ | with_reducible refine go_te ?_ | with_reducible refine go_bn ?_ | with_reducible refine go_br ?_ | with_reducible refine go_be ?_ | ((with_reducible refine go_bo ?_ ?_); exact rfl) | ((with_reducible apply gs_app0); exact rfl; exact evM f; exact evM f; (first | exact evp f | exact evM f | exact euM f)) | ((with_reducible apply gs_op0); exact rfl; exact rfl; exact evM f) | ((with_reducible apply gs_op0); exact rfl; exact rfl; exact euM f) | ((with_reducible apply gs_skipu0); exact rfl; exact evM f) | ((with_reducible apply gs_skip0); exact rfl; exact evM f) | ((with_reducible apply gs_guard); exact evM f) | ((with_reducible apply gs_appm); exact evM f; exact evM f; (first | exact evp f | exact evM f | exact euM f); (first | exact True.intro | exact inwM f)) | ((with_reducible apply gs_op); exact rfl; decide +kernel; exact rfl; exact evM f) | ((with_reducible apply gs_act); exact rfl; exact rfl; exact evM f; (first | exact True.intro | exact inwM f)) | ((with_reducible apply gs_op); exact rfl; decide +kernel; exact rfl; exact euM f) | ((with_reducible apply gs_act); exact rfl; exact rfl; exact euM f; (first | exact True.intro | exact inwM f)) | ((with_reducible apply gs_load); exact rfl; decide +kernel; exact rfl; exact evM f; (first | exact True.intro | exact inwM f)) | ((with_reducible apply gs_skipu); decide +kernel; exact rfl; exact evM f) | ((with_reducible apply gs_skip); decide +kernel; exact rfl; exact evM f) | ((with_reducible apply gs_call); exact evM f) | ((with_reducible apply gs_callv); exact evM f; kernel_rfl; exact evM f) | ((with_reducible refine go_ct ?_ ?_); exact evM f) | ((with_reducible refine go_cf ?_ ?_); exact evM f) | ((with_reducible apply go_fr); exact evM f) | ((with_reducible apply go_fn); exact evM f) | ((with_reducible refine go_draw 1 ?_ ?_); decide +kernel) | ((with_reducible refine go_draw 2 ?_ ?_); decide +kernel))); exact k) : A := h f k
end AX
end Go.Proofs.YtnjkemakcejceaaGreatDoor
