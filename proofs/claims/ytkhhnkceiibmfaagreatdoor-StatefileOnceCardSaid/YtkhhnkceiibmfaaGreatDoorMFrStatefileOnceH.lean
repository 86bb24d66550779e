/- Part of what the proof needs. -/
import Derived.Test.YtkhhnkceiibmfaaGreatDoorMFrStatefileOnceB
import Derived.Test.YtkhhnkceiibmfaaGreatDoorMFrStatefileOnceE
import Derived.Test.YtkhhnkceiibmfaaGreatDoorMFrStatefileOnceF
import Derived.Test.YtkhhnkceiibmfaaGreatDoorMFrStatefileOnceG
import Derived.Shelf.Slices.Clone
namespace Go.Proofs.YtkhhnkceiibmfaaGreatDoor
open Go.RowKit
set_option linter.unusedSimpArgs false
set_option linter.unusedVariables false
set_option maxHeartbeats 4000000
namespace Sf
def Inst.cells : Inst → List AX.A
  | ⟨a, d, i, t, .mk k n s is ks, v, tn, fi, ds⟩ => [.str a, .str d, .str i, .str t, .int .i64 k, .int .i64 n, .str s, .sl 5 .no (V.cellss is), .sl 1 .no (strsA ks), .int .i64 v, .bool tn, .bool fi, .sl 1 .no (strsA ds)]
def Pend.cells (p : Pend) : List AX.A := [.str p.addr, .str p.typ, .str p.tok]
def Outp.cells : Outp → List AX.A
  | ⟨m, .mk k n s is ks, b⟩ => [.str m, .int .i64 k, .int .i64 n, .str s, .sl 5 .no (V.cellss is), .sl 1 .no (strsA ks), .bool b]
def St.A (s : St) : AX.A := .agg [.str s.lin, .int .i64 s.ser, .sl 13 .no (s.insts.map Inst.cells), .sl 3 .no (s.pends.map Pend.cells), .sl 7 .no (s.outs.map Outp.cells)]
end Sf
namespace Val
theorem readValue_le (r : Wire.St) : (readValue r).1.rest.length ≤ r.rest.length := by
  have := read_le 32 r
  unfold readValue
  dsimp only
  split
  · exact this
  · split <;> exact this
end Val
namespace Sf
theorem strS_le (s : Rs) : (strS s).1.r.rest.length ≤ s.r.rest.length := Wire.strR_rest _
theorem numS_le (s : Rs) : (numS s).1.r.rest.length ≤ s.r.rest.length := Wire.numR_rest _
theorem cntS_le (s : Rs) : (cntS s).1.r.rest.length ≤ s.r.rest.length := Wire.cntR_rest _ _
theorem cntS_cnt (s : Rs) : (cntS s).2 ≤ s.r.rest.length := Wire.cntR_cnt _
theorem flagS_le (s : Rs) : (flagS s).1.r.rest.length ≤ s.r.rest.length := Wire.numR_rest _
theorem valueS_le (s : Rs) : (valueS s).1.r.rest.length ≤ s.r.rest.length := Val.readValue_le _
theorem wordsS_le : ∀ (c : Nat) (s : Rs) (l : List (List UInt8)), (wordsS c s l).1.r.rest.length ≤ s.r.rest.length
  | 0, s, l => Nat.le_refl _
  | c + 1, s, l => Nat.le_trans (wordsS_le c _ _) (strS_le s)
end Sf
namespace AX
/-- The reader of parts in a box, its Reader in the next. -/
def RB (ver : Int) (bad : Bool) : Blk := .cells 108 [.ptr 1 0, .int .i64 ver, .bool bad]
theorem liftR {P : Program} {G : World → Prop} {f : FuncId} {args : List A} {ver : Int} {s s' : Sf.Rs} {v : A} (hc : ACall P G f (.ptr 0 0 :: args) ⟨[RB ver s.bad, rdr s.r], []⟩ fun v' h' => v' = v ∧ h'.b[0]? = some (RB ver s'.bad) ∧ h'.b[1]? = some (rdr s'.r)) (ha : A.locL 0 args = true) (hv : v.loc 0 = true) (l : List Blk) (t : List (TypeId × Nat × Nat)) :
    ACall P G f (.ptr 0 0 :: args) ⟨RB ver s.bad :: rdr s.r :: l, t⟩ fun v' h' => v' = v ∧ h' = ⟨RB ver s'.bad :: rdr s'.r :: l, t⟩ := by
  have key := ACall.lift hc (fun i => i) (fun a b _ _ e => e) (by unfold A.locL; rw [(A.locL0 _ args ha).1]; rfl)
    (fun x hx => by
      rcases List.mem_cons.1 hx with rfl | hx
      · rfl
      · rw [List.mem_singleton.1 hx]; rfl)
    (fun v' h' ⟨e, h0, h1⟩ => ⟨by rw [e]; exact (A.loc0 _ v hv).1, fun j x hj hx => by
      have : j = 0 ∨ j = 1 := by simp only [List.length_cons, List.length_nil] at hj; omega
      rcases this with rfl | rfl
      · rw [h0] at hx; injection hx with hx; subst hx; rfl
      · rw [h1] at hx; injection hx with hx; subst hx; rfl⟩)
    (h := ⟨RB ver s.bad :: rdr s.r :: l, t⟩) (fun j hj => by
      have : j = 0 ∨ j = 1 := by simp only [List.length_cons, List.length_nil] at hj; omega
      rcases this with rfl | rfl <;> rfl)
  have e : A.renL (fun i => i) (.ptr 0 0 :: args) = .ptr 0 0 :: args := by unfold A.renL; rw [(A.locL0 0 args ha).2]; rfl
  rw [e] at key
  refine key.mono ?_
  rintro v' h' ⟨v0, ⟨b0, t0⟩, ⟨rfl, h0, h1⟩, rfl, rfl⟩
  refine ⟨(A.loc0 0 _ hv).2 _, ?_⟩
  match b0, h0, h1 with
  | x :: y :: b, h0, h1 =>
    simp only [List.getElem?_cons_zero, List.getElem?_cons_succ, Option.some.injEq] at h0 h1
    subst h0; subst h1
    rfl
def c_rflag : AX.AFn := ⟨26, .seq (.reg false [⟨some 2, .mv (.c (.bool false)), none, []⟩]) (.seq (.reg false [⟨some 4, .mv (.t 0), none, []⟩, ⟨some 5, .nilck (.t 4), none, []⟩, ⟨some 6, .faddr 0 (.t 5), none, []⟩, ⟨some 7, .load false 1 (.t 6), none, []⟩, ⟨some 8, .call 66 [.t 7], none, []⟩, ⟨some 3, .mv (.t 8), none, []⟩]) (.seq (.reg false [⟨some 9, .mv (.t 0), none, []⟩, ⟨some 10, .mv (.t 0), none, []⟩, ⟨some 11, .nilck (.t 10), none, []⟩, ⟨some 12, .faddr 2 (.t 11), none, []⟩, ⟨some 13, .load false 1 (.t 12), none, []⟩, ⟨some 14, .mv (.t 13), none, []⟩, ⟨some 15, .mv (.t 3), some (14, false), []⟩, ⟨some 16, .bin .neq (.t 15) (.c (.int .i64 0)), some (14, false), []⟩, ⟨some 17, .mv (.t 16), some (14, false), []⟩, ⟨some 18, .mv (.t 3), some (17, true), []⟩, ⟨some 19, .bin .neq (.t 18) (.c (.int .i64 1)), some (17, true), []⟩, ⟨some 20, .pick (.t 17) (.t 19) (.c (.bool false)), some (14, false), []⟩, ⟨some 21, .pick (.t 14) (.c (.bool true)) (.t 20), none, []⟩, ⟨some 22, .nilck (.t 9), none, []⟩, ⟨some 23, .faddr 2 (.t 22), none, []⟩, ⟨none, .store 1 (.t 23) (.t 21), none, []⟩]) (.seq (.reg false [⟨some 24, .mv (.t 3), none, []⟩, ⟨some 25, .bin .eql (.t 24) (.c (.int .i64 1)), none, []⟩, ⟨some 2, .mv (.t 25), none, []⟩]) (.ret)))), [.t 2]⟩
theorem h_rflag : AX.compFn Tryz.prog 133 = some c_rflag := by kernel_rfl
def c_rvalue : AX.AFn := ⟨25, .seq (.reg false [⟨some 2, .alloc 44 [.int .i64 0, .int .i64 0, .str [], .sl 0 .nil [], .sl 0 .nil []], none, []⟩]) (.seq (.reg false [⟨some 6, .mv (.t 0), none, []⟩, ⟨some 7, .nilck (.t 6), none, []⟩, ⟨some 8, .faddr 0 (.t 7), none, []⟩, ⟨some 9, .load false 1 (.t 8), none, []⟩, ⟨some 10, .call 186 [.t 9], none, []⟩, ⟨some 5, .mv (.t 10), none, []⟩, ⟨some 11, .extract (.t 5) 0, none, []⟩, ⟨some 12, .extract (.t 5) 1, none, []⟩, ⟨some 3, .alloc 44 [.int .i64 0, .int .i64 0, .str [], .sl 0 .nil [], .sl 0 .nil []], none, []⟩, ⟨none, .store 5 (.t 3) (.t 11), none, []⟩, ⟨some 4, .mv (.t 12), none, []⟩]) (.seq (.reg false [⟨some 13, .mv (.t 0), none, []⟩, ⟨some 14, .mv (.t 0), none, []⟩, ⟨some 15, .nilck (.t 14), none, []⟩, ⟨some 16, .faddr 2 (.t 15), none, []⟩, ⟨some 17, .load false 1 (.t 16), none, []⟩, ⟨some 18, .mv (.t 17), none, []⟩, ⟨some 19, .mv (.t 4), some (18, false), []⟩, ⟨some 20, .bin .neq (.t 19) (.c (.int .i64 0)), some (18, false), []⟩, ⟨some 21, .pick (.t 18) (.c (.bool true)) (.t 20), none, []⟩, ⟨some 22, .nilck (.t 13), none, []⟩, ⟨some 23, .faddr 2 (.t 22), none, []⟩, ⟨none, .store 1 (.t 23) (.t 21), none, []⟩]) (.seq (.reg false [⟨some 24, .load true 5 (.t 3), none, []⟩, ⟨none, .store 5 (.t 2) (.t 24), none, []⟩]) (.ret)))), [.c 2 true 5]⟩
theorem h_rvalue : AX.compFn Tryz.prog 132 = some c_rvalue := by kernel_rfl
def c_rfails : AX.AFn := ⟨15, .seq (.reg false [⟨some 2, .mv (.c (.bool false)), none, []⟩]) (.seq (.reg false [⟨some 3, .mv (.t 0), none, []⟩, ⟨some 4, .nilck (.t 3), none, []⟩, ⟨some 5, .faddr 2 (.t 4), none, []⟩, ⟨some 6, .load false 1 (.t 5), none, []⟩, ⟨some 7, .mv (.t 6), none, []⟩, ⟨some 8, .mv (.t 0), some (7, false), []⟩, ⟨some 9, .nilck (.t 8), some (7, false), []⟩, ⟨some 10, .faddr 0 (.t 9), some (7, false), []⟩, ⟨some 11, .load false 1 (.t 10), some (7, false), []⟩, ⟨some 12, .call 74 [.t 11], some (7, false), []⟩, ⟨some 13, .bin .neq (.t 12) (.c (.int .i64 0)), some (7, false), []⟩, ⟨some 14, .pick (.t 7) (.c (.bool true)) (.t 13), none, []⟩, ⟨some 2, .mv (.t 14), none, []⟩]) (.ret)), [.t 2]⟩
theorem h_rfails : AX.compFn Tryz.prog 68 = some c_rfails := by kernel_rfl
def c_rinst : AX.AFn := ⟨64, .seq (.reg false [⟨some 2, .alloc 46 [.str [], .str [], .str [], .str [], .int .i64 0, .int .i64 0, .str [], .sl 0 .nil [], .sl 0 .nil [], .int .i64 0, .bool false, .bool false, .sl 0 .nil []], none, []⟩]) (.seq (.reg true [⟨some 4, .mv (.t 0), none, []⟩, ⟨some 5, .nilck (.t 4), none, [0]⟩, ⟨some 6, .faddr 0 (.t 5), none, [1]⟩, ⟨some 7, .load false 1 (.t 6), none, [2]⟩, ⟨some 8, .call 129 [.t 7], none, [3]⟩, ⟨some 9, .mv (.t 0), none, []⟩, ⟨some 10, .nilck (.t 9), none, [5]⟩, ⟨some 11, .faddr 0 (.t 10), none, [6]⟩, ⟨some 12, .load false 1 (.t 11), none, [7]⟩, ⟨some 13, .call 129 [.t 12], none, [8, 4]⟩, ⟨some 14, .mv (.t 0), none, []⟩, ⟨some 15, .nilck (.t 14), none, [10]⟩, ⟨some 16, .faddr 0 (.t 15), none, [11]⟩, ⟨some 17, .load false 1 (.t 16), none, [12]⟩, ⟨some 18, .call 129 [.t 17], none, [13, 9]⟩, ⟨some 19, .mv (.t 0), none, []⟩, ⟨some 20, .nilck (.t 19), none, [15]⟩, ⟨some 21, .faddr 0 (.t 20), none, [16]⟩, ⟨some 22, .load false 1 (.t 21), none, [17]⟩, ⟨some 23, .call 129 [.t 22], none, [18, 14]⟩, ⟨some 24, .build [.str [], .str [], .str [], .str [], .int .i64 0, .int .i64 0, .str [], .sl 0 .nil [], .sl 0 .nil [], .int .i64 0, .bool false, .bool false, .sl 0 .nil []] [(0, 1, .t 8), (1, 1, .t 13), (2, 1, .t 18), (3, 1, .t 23)], none, [4, 9, 14, 19]⟩, ⟨some 3, .alloc 46 [.str [], .str [], .str [], .str [], .int .i64 0, .int .i64 0, .str [], .sl 0 .nil [], .sl 0 .nil [], .int .i64 0, .bool false, .bool false, .sl 0 .nil []], none, []⟩, ⟨none, .store 13 (.t 3) (.t 24), none, [21, 20, 19, 0, 1, 2, 3, 4, 5, 6, 7, 8, 9, 10, 11, 12, 13, 14, 15, 16, 17, 18, 19, 20, 21]⟩]) (.seq (.reg false [⟨some 25, .mv (.t 0), none, []⟩, ⟨some 26, .call 132 [.t 25], none, []⟩, ⟨some 27, .faddr 4 (.t 3), none, []⟩, ⟨none, .store 5 (.t 27) (.t 26), none, []⟩]) (.seq (.reg false [⟨some 28, .mv (.t 0), none, []⟩, ⟨some 29, .nilck (.t 28), none, []⟩, ⟨some 30, .faddr 0 (.t 29), none, []⟩, ⟨some 31, .load false 1 (.t 30), none, []⟩, ⟨some 32, .call 66 [.t 31], none, []⟩, ⟨some 33, .faddr 9 (.t 3), none, []⟩, ⟨none, .store 1 (.t 33) (.t 32), none, []⟩]) (.seq (.reg false [⟨some 34, .mv (.t 0), none, []⟩, ⟨some 35, .call 133 [.t 34], none, []⟩, ⟨some 36, .faddr 10 (.t 3), none, []⟩, ⟨none, .store 1 (.t 36) (.t 35), none, []⟩]) (.seq (.seq (.reg false [⟨some 37, .mv (.t 0), none, []⟩, ⟨some 38, .nilck (.t 37), none, []⟩, ⟨some 39, .faddr 1 (.t 38), none, []⟩, ⟨some 40, .load false 1 (.t 39), none, []⟩, ⟨some 41, .bin .eql (.t 40) (.c (.int .i64 2)), none, []⟩]) (.cond (.t 41) (.reg false [⟨some 42, .mv (.t 0), none, []⟩, ⟨some 43, .call 133 [.t 42], none, []⟩, ⟨some 44, .faddr 11 (.t 3), none, []⟩, ⟨none, .store 1 (.t 44) (.t 43), none, []⟩]) (.skip))) (.seq (.seq (.reg false [⟨some 45, .mv (.t 0), none, []⟩, ⟨some 46, .nilck (.t 45), none, []⟩, ⟨some 47, .faddr 0 (.t 46), none, []⟩, ⟨some 48, .load false 1 (.t 47), none, []⟩, ⟨some 49, .call 130 [.t 48, .c (.int .i64 1)], none, []⟩, ⟨some 50, .mv (.c (.int .i64 0)), none, []⟩]) (.block 0 (.loop (.seq (.reg false [⟨some 51, .bin .lss (.t 50) (.t 49), none, []⟩]) (.seq (.cond (.t 51) (.skip) (.exit 0)) (.seq (.block 1 (.reg true [⟨some 52, .faddr 12 (.t 3), none, []⟩, ⟨some 53, .load false 1 (.t 52), none, [0]⟩, ⟨some 54, .mv (.t 0), none, []⟩, ⟨some 55, .nilck (.t 54), none, [2]⟩, ⟨some 56, .faddr 0 (.t 55), none, [3]⟩, ⟨some 57, .load false 1 (.t 56), none, [4]⟩, ⟨some 58, .call 129 [.t 57], none, [5]⟩, ⟨some 59, .mks 1 [.t 58], none, [6]⟩, ⟨some 60, .app 9 1 16 (.t 53) (.t 59), none, [1, 7, 6]⟩, ⟨some 61, .faddr 12 (.t 3), none, [0, 1, 2, 3, 4, 5, 6, 7, 8]⟩, ⟨none, .store 1 (.t 61) (.t 60), none, [9, 8, 8, 0, 1, 2, 3, 4, 5, 6, 7, 8]⟩])) (.reg false [⟨some 62, .bin .add (.t 50) (.c (.int .i64 1)), none, []⟩, ⟨some 50, .mv (.t 62), none, []⟩]))))))) (.seq (.reg false [⟨some 63, .load true 13 (.t 3), none, []⟩, ⟨none, .store 13 (.t 2) (.t 63), none, []⟩]) (.ret)))))))), [.c 2 true 13]⟩
theorem h_rinst : AX.compFn Tryz.prog 131 = some c_rinst := by kernel_rfl

theorem a_rflag {ver : Int} (s : Sf.Rs) (hl : s.r.rest.length ≤ 100000000) (l : List Blk) (t : List (TypeId × Nat × Nat)) :
    ACall Tryz.prog GT 133 [.ptr 0 0] ⟨RB ver s.bad :: rdr s.r :: l, t⟩ fun v h' => v = .bool (Sf.flagS s).2 ∧ h' = ⟨RB ver (Sf.flagS s).1.bad :: rdr (Sf.flagS s).1.r :: l, t⟩ := by
  refine liftR ?_ rfl rfl l t
  refine acall_of mixedT h_rflag (by simp [c_rflag]) ?_
  dsimp only [c_rflag]
  unfold RB
  (refine AX.run0 True.intro ?_)
  refine use (a_number (i := 1) (r := s.r) rfl hl) ?_
  obtain ⟨q, hq⟩ : ∃ q, Wire.numR s.r = q := ⟨_, rfl⟩
  have hF : Sf.flagS s = (⟨q.1, s.bad || (q.2 != 0 && q.2 != 1)⟩, q.2 == 1) := by unfold Sf.flagS; rw [hq]
  rw [hq, hF]
  rcases bool_or s.bad with e0 | e0
  · rw [e0]
    (refine AX.run0 True.intro ?_)
    exact ⟨_, le_refl _, rfl, rfl, rfl⟩
  · rw [e0]
    rcases bool_or (q.2 != 0) with e1 | e1
    · (refine AX.run0 e1 ?_)
      exact ⟨_, le_refl _, rfl, by rw [e1]; rfl, rfl⟩
    · (refine AX.run0 e1 ?_)
      exact ⟨_, le_refl _, rfl, by rw [e1]; rfl, rfl⟩
theorem a_rfails {ver : Int} (s : Sf.Rs) (l : List Blk) (t : List (TypeId × Nat × Nat)) :
    ACall Tryz.prog GT 68 [.ptr 0 0] ⟨RB ver s.bad :: rdr s.r :: l, t⟩ fun v h' => v = .bool s.fails ∧ h' = ⟨RB ver s.bad :: rdr s.r :: l, t⟩ := by
  refine acall_of mixedT h_rfails (by simp [c_rfails]) ?_
  dsimp only [c_rfails]
  unfold RB
  unfold Sf.Rs.fails
  rcases bool_or s.bad with e0 | e0
  · rw [e0]
    (refine AX.run0 True.intro ?_)
    exact ⟨_, le_refl _, rfl, rfl⟩
  · rw [e0]
    (refine AX.run0 True.intro ?_)
    refine use (a_err (i := 1) (r := s.r) rfl) ?_
    (refine AX.run0 True.intro ?_)
    exact ⟨_, le_refl _, rfl, rfl⟩
theorem a_rvalue {ver : Int} (s : Sf.Rs) (hl : s.r.rest.length ≤ 100000000) (l : List Blk) (t : List (TypeId × Nat × Nat)) :
    ACall Tryz.prog GT 132 [.ptr 0 0] ⟨RB ver s.bad :: rdr s.r :: l, t⟩ fun v h' => v = (Sf.valueS s).2.A ∧ h' = ⟨RB ver (Sf.valueS s).1.bad :: rdr (Sf.valueS s).1.r :: l, t⟩ := by
  obtain ⟨⟨x1, x2, x3⟩, hx⟩ : ∃ x, Val.readValue s.r = x := ⟨_, rfl⟩
  have hF : Sf.valueS s = (⟨x1, s.bad || x2 != 0⟩, x3) := by unfold Sf.valueS; rw [hx]
  have hrd := a_readValue1 (i := 1) (r := s.r) (h := ⟨[RB ver s.bad, rdr s.r, .cells 44 [.int .i64 0, .int .i64 0, .str [], .sl 0 .nil [], .sl 0 .nil []]], []⟩) rfl hl
  rw [hx] at hrd
  rw [hF]
  obtain ⟨k, n, w, is, ks⟩ := x3
  have hVA : (V.mk k n w is ks).A = .agg [.int .i64 k, .int .i64 n, .str w, .sl 5 .no (V.cellss is), .sl 1 .no (strsA ks)] := by simp only [V.A, V.cells]
  dsimp only at hrd ⊢
  rw [hVA] at hrd ⊢
  unfold RB at hrd
  refine liftR (s' := ⟨x1, s.bad || x2 != 0⟩) ?_ rfl rfl l t
  refine acall_of mixedT h_rvalue (by simp [c_rvalue]) ?_
  dsimp only [c_rvalue]
  unfold RB
  (refine AX.run0 True.intro ?_)
  refine use hrd ?_
  rcases bool_or s.bad with e0 | e0
  · rw [e0]
    (refine AX.run0 True.intro ?_)
    exact ⟨_, le_refl _, rfl, rfl, rfl⟩
  · rw [e0]
    (refine AX.run0 True.intro ?_)
    exact ⟨_, le_refl _, rfl, rfl, rfl⟩
def ZI : Blk := .cells 46 [.str [], .str [], .str [], .str [], .int .i64 0, .int .i64 0, .str [], .sl 0 .nil [], .sl 0 .nil [], .int .i64 0, .bool false, .bool false, .sl 0 .nil []]
def IB (a b c d : List UInt8) (v : List A) (n : Int) (tn fi : Bool) (x : A) : Blk := .cells 46 ([.str a, .str b, .str c, .str d] ++ v ++ [.int .i64 n, .bool tn, .bool fi, x])
theorem a_rinst {ver : Int} (hver : ver = 1 ∨ ver = 2) (s : Sf.Rs) (hl : s.r.rest.length ≤ 100000000) (l : List Blk) (t : List (TypeId × Nat × Nat)) :
    ACall Tryz.prog GT 131 [.ptr 0 0] ⟨RB ver s.bad :: rdr s.r :: l, t⟩ fun v h' => v = .agg (Sf.instS ver s).2.cells ∧ h' = ⟨RB ver (Sf.instS ver s).1.bad :: rdr (Sf.instS ver s).1.r :: l, t⟩ := by
  refine liftR (s' := (Sf.instS ver s).1) (v := .agg (Sf.instS ver s).2.cells) ?_ rfl ?_ l t
  rotate_left
  · obtain ⟨a, d, i, ty, ⟨k, n, w, is, ks⟩, v, tn, fi, ds⟩ := (Sf.instS ver s).2
    rfl
  refine acall_of mixedT h_rinst (by simp [c_rinst]) ?_
  dsimp only [c_rinst]
  unfold RB
  obtain ⟨⟨r1, x1⟩, h1⟩ : ∃ q, Wire.strR s.r = q := ⟨_, rfl⟩
  have l1 := Wire.strR_rest s.r
  rw [h1] at l1
  obtain ⟨⟨r2, x2⟩, h2⟩ : ∃ q, Wire.strR r1 = q := ⟨_, rfl⟩
  have l2 := Wire.strR_rest r1
  rw [h2] at l2
  obtain ⟨⟨r3, x3⟩, h3⟩ : ∃ q, Wire.strR r2 = q := ⟨_, rfl⟩
  have l3 := Wire.strR_rest r2
  rw [h3] at l3
  obtain ⟨⟨r4, x4⟩, h4⟩ : ∃ q, Wire.strR r3 = q := ⟨_, rfl⟩
  have l4 := Wire.strR_rest r3
  rw [h4] at l4
  dsimp only at l1 l2 l3 l4
  have str : ∀ (r r' : Wire.St) (x : List UInt8) (h : Hp), Wire.strR r = (r', x) → h.b[1]? = some (rdr r) → r.rest.length ≤ 100000000 → ACall Tryz.prog GT 129 [.ptr 1 0] h fun v h' => v = .str x ∧ h' = ⟨h.b.set 1 (rdr r'), h.t⟩ := fun r r' x h e hb hl => by
    have := a_rstring hb hl
    rw [e] at this; exact this
  (refine AX.run0 True.intro ?_)
  refine go_gen [4, 9, 14, 19, 22] 21 [⟨[.cells 108 [.ptr 1 0, .int .i64 ver, .bool s.bad], rdr s.r, .cells 46 [.str [], .str [], .str [], .str [], .int .i64 0, .int .i64 0, .str [], .sl 0 .nil [], .sl 0 .nil [], .int .i64 0, .bool false, .bool false, .sl 0 .nil []]], []⟩, ⟨[.cells 108 [.ptr 1 0, .int .i64 ver, .bool s.bad], rdr r1, .cells 46 [.str [], .str [], .str [], .str [], .int .i64 0, .int .i64 0, .str [], .sl 0 .nil [], .sl 0 .nil [], .int .i64 0, .bool false, .bool false, .sl 0 .nil []]], []⟩, ⟨[.cells 108 [.ptr 1 0, .int .i64 ver, .bool s.bad], rdr r2, .cells 46 [.str [], .str [], .str [], .str [], .int .i64 0, .int .i64 0, .str [], .sl 0 .nil [], .sl 0 .nil [], .int .i64 0, .bool false, .bool false, .sl 0 .nil []]], []⟩, ⟨[.cells 108 [.ptr 1 0, .int .i64 ver, .bool s.bad], rdr r3, .cells 46 [.str [], .str [], .str [], .str [], .int .i64 0, .int .i64 0, .str [], .sl 0 .nil [], .sl 0 .nil [], .int .i64 0, .bool false, .bool false, .sl 0 .nil []]], []⟩, ⟨[.cells 108 [.ptr 1 0, .int .i64 ver, .bool s.bad], rdr r4, .cells 46 [.str [], .str [], .str [], .str [], .int .i64 0, .int .i64 0, .str [], .sl 0 .nil [], .sl 0 .nil [], .int .i64 0, .bool false, .bool false, .sl 0 .nil []]], []⟩, ⟨[], []⟩, ⟨[.cells 108 [.ptr 1 0, .int .i64 ver, .bool s.bad], rdr s.r, .cells 46 [.str [], .str [], .str [], .str [], .int .i64 0, .int .i64 0, .str [], .sl 0 .nil [], .sl 0 .nil [], .int .i64 0, .bool false, .bool false, .sl 0 .nil []], .cells 46 [.str [], .str [], .str [], .str [], .int .i64 0, .int .i64 0, .str [], .sl 0 .nil [], .sl 0 .nil [], .int .i64 0, .bool false, .bool false, .sl 0 .nil []]], []⟩, ⟨[.cells 108 [.ptr 1 0, .int .i64 ver, .bool s.bad], rdr r1, .cells 46 [.str [], .str [], .str [], .str [], .int .i64 0, .int .i64 0, .str [], .sl 0 .nil [], .sl 0 .nil [], .int .i64 0, .bool false, .bool false, .sl 0 .nil []], .cells 46 [.str [], .str [], .str [], .str [], .int .i64 0, .int .i64 0, .str [], .sl 0 .nil [], .sl 0 .nil [], .int .i64 0, .bool false, .bool false, .sl 0 .nil []]], []⟩, ⟨[.cells 108 [.ptr 1 0, .int .i64 ver, .bool s.bad], rdr r2, .cells 46 [.str [], .str [], .str [], .str [], .int .i64 0, .int .i64 0, .str [], .sl 0 .nil [], .sl 0 .nil [], .int .i64 0, .bool false, .bool false, .sl 0 .nil []], .cells 46 [.str [], .str [], .str [], .str [], .int .i64 0, .int .i64 0, .str [], .sl 0 .nil [], .sl 0 .nil [], .int .i64 0, .bool false, .bool false, .sl 0 .nil []]], []⟩, ⟨[.cells 108 [.ptr 1 0, .int .i64 ver, .bool s.bad], rdr r3, .cells 46 [.str [], .str [], .str [], .str [], .int .i64 0, .int .i64 0, .str [], .sl 0 .nil [], .sl 0 .nil [], .int .i64 0, .bool false, .bool false, .sl 0 .nil []], .cells 46 [.str [], .str [], .str [], .str [], .int .i64 0, .int .i64 0, .str [], .sl 0 .nil [], .sl 0 .nil [], .int .i64 0, .bool false, .bool false, .sl 0 .nil []]], []⟩, ⟨[.cells 108 [.ptr 1 0, .int .i64 ver, .bool s.bad], rdr r4, .cells 46 [.str [], .str [], .str [], .str [], .int .i64 0, .int .i64 0, .str [], .sl 0 .nil [], .sl 0 .nil [], .int .i64 0, .bool false, .bool false, .sl 0 .nil []], .cells 46 [.str [], .str [], .str [], .str [], .int .i64 0, .int .i64 0, .str [], .sl 0 .nil [], .sl 0 .nil [], .int .i64 0, .bool false, .bool false, .sl 0 .nil []]], []⟩, ⟨[.cells 108 [.ptr 1 0, .int .i64 ver, .bool s.bad], rdr r4, .cells 46 [.str [], .str [], .str [], .str [], .int .i64 0, .int .i64 0, .str [], .sl 0 .nil [], .sl 0 .nil [], .int .i64 0, .bool false, .bool false, .sl 0 .nil []], .cells 46 [.str x1, .str x2, .str x3, .str x4, .int .i64 0, .int .i64 0, .str [], .sl 0 .nil [], .sl 0 .nil [], .int .i64 0, .bool false, .bool false, .sl 0 .nil []]], []⟩] [[0, 6], [0, 6], [0, 6], [0, 6], [0, 6], [0, 1, 6, 7], [0, 1, 6, 7], [0, 1, 6, 7], [0, 1, 6, 7], [1, 7], [0, 1, 2, 6, 7, 8], [0, 1, 2, 6, 7, 8], [0, 1, 2, 6, 7, 8], [0, 1, 2, 6, 7, 8], [2, 8], [0, 1, 2, 3, 6, 7, 8, 9], [0, 1, 2, 3, 6, 7, 8, 9], [0, 1, 2, 3, 6, 7, 8, 9], [0, 1, 2, 3, 6, 7, 8, 9], [3, 9], [4, 10], [0, 1, 2, 3, 4], [10]] rfl (by decide +kernel) ?_
  refine AX.rung True.intro ?_
  refine gn_call (vs := [.ptr 1 0]) (by (exact AX.ev0 True.intro)) ⟨str s.r r1 x1 _ h1 rfl (by omega), str s.r r1 x1 _ h1 rfl (by omega), trivial⟩ ?_
  refine AX.rung True.intro ?_
  refine gn_call (vs := [.ptr 1 0]) (by (exact AX.ev0 True.intro)) ⟨str r1 r2 x2 _ h2 rfl (by omega), str r1 r2 x2 _ h2 rfl (by omega), trivial⟩ ?_
  refine AX.rung True.intro ?_
  refine gn_call (vs := [.ptr 1 0]) (by (exact AX.ev0 True.intro)) ⟨str r2 r3 x3 _ h3 rfl (by omega), str r2 r3 x3 _ h3 rfl (by omega), trivial⟩ ?_
  refine AX.rung True.intro ?_
  refine gn_call (vs := [.ptr 1 0]) (by (exact AX.ev0 True.intro)) ⟨str r3 r4 x4 _ h4 rfl (by omega), str r3 r4 x4 _ h4 rfl (by omega), trivial⟩ ?_
  refine AX.rung True.intro ?_
  obtain ⟨⟨⟨r5, b5⟩, xv⟩, h5⟩ : ∃ q, Sf.valueS ⟨r4, s.bad⟩ = q := ⟨_, rfl⟩
  have c5 := a_rvalue (ver := ver) ⟨r4, s.bad⟩ (by dsimp only; omega) [ZI, IB x1 x2 x3 x4 [.int .i64 0, .int .i64 0, .str [], .sl 0 .nil [], .sl 0 .nil []] 0 false false (.sl 0 .nil [])] []
  have l5 := Sf.valueS_le ⟨r4, s.bad⟩
  rw [h5] at c5 l5
  obtain ⟨vk, vn, vs, vi, vy⟩ := xv
  have hVA : (V.mk vk vn vs vi vy).A = .agg [.int .i64 vk, .int .i64 vn, .str vs, .sl 5 .no (V.cellss vi), .sl 1 .no (strsA vy)] := by simp only [V.A, V.cells]
  dsimp only at c5 l5
  rw [hVA] at c5
  unfold RB ZI IB at c5
  (refine AX.run0 True.intro ?_)
  refine use c5 ?_
  (refine AX.run0 True.intro ?_)
  refine use (a_number (i := 1) (r := r5) rfl (by omega)) ?_
  have l6 := Wire.numR_rest r5
  obtain ⟨⟨r6, x6⟩, h6⟩ : ∃ q, Wire.numR r5 = q := ⟨_, rfl⟩
  rw [h6] at l6 ⊢
  dsimp only at l6 ⊢
  obtain ⟨⟨⟨r7, b7⟩, x7⟩, h7⟩ : ∃ q, Sf.flagS ⟨r6, b5⟩ = q := ⟨_, rfl⟩
  have l7 := Sf.flagS_le ⟨r6, b5⟩
  have c7 := a_rflag (ver := ver) ⟨r6, b5⟩ (by dsimp only; omega) [ZI, IB x1 x2 x3 x4 [.int .i64 vk, .int .i64 vn, .str vs, .sl 5 .no (V.cellss vi), .sl 1 .no (strsA vy)] x6 false false (.sl 0 .nil [])] []
  rw [h7] at c7 l7
  dsimp only at c7 l7
  unfold RB ZI IB at c7
  simp only [List.cons_append, List.nil_append] at c7
  (refine AX.run0 True.intro ?_)
  refine use c7 ?_
  have fin : ∀ (r8 : Wire.St) (b8 x8 : Bool) (c0 : Wire.St × Nat) (rr : Wire.St) (bw : Bool) (ds : List (List UInt8)), (if ver = 2 then Sf.flagS ⟨r7, b7⟩ else (⟨r7, b7⟩, false)) = (⟨r8, b8⟩, x8) → Wire.cntR r8 1 = c0 → Sf.wordsS c0.2 ⟨c0.1, b8⟩ [] = (⟨rr, bw⟩, ds) → Sf.instS ver s = (⟨rr, bw⟩, ⟨x1, x2, x3, x4, .mk vk vn vs vi vy, x6, x7, x8, ds⟩) := by
    intro r8 b8 x8 c0 rr bw ds h8 hc hw
    unfold Sf.instS Sf.strS Sf.numS Sf.cntS
    simp only [h1, h2, h3, h4, h5, h6, h7, h8, hc, hw]
  have branch : ∃ (r8 : Wire.St) (b8 x8 : Bool), (if ver = 2 then Sf.flagS ⟨r7, b7⟩ else (⟨r7, b7⟩, false)) = (⟨r8, b8⟩, x8) ∧ r8.rest.length ≤ r7.rest.length := by
    by_cases hv : ver = 2
    · rw [if_pos hv]; exact ⟨(Sf.flagS ⟨r7, b7⟩).1.r, (Sf.flagS ⟨r7, b7⟩).1.bad, (Sf.flagS ⟨r7, b7⟩).2, rfl, Sf.flagS_le _⟩
    · rw [if_neg hv]; exact ⟨r7, b7, false, rfl, Nat.le_refl _⟩
  obtain ⟨r8, b8, x8, h8, l8⟩ := branch
  have hfin := fin r8 b8 x8
  have c8 := a_rflag (ver := ver) ⟨r7, b7⟩ (by dsimp only; omega) [ZI, IB x1 x2 x3 x4 [.int .i64 vk, .int .i64 vn, .str vs, .sl 5 .no (V.cellss vi), .sl 1 .no (strsA vy)] x6 x7 false (.sl 0 .nil [])] []
  unfold RB ZI IB at c8
  simp only [List.cons_append, List.nil_append] at c8
  have hv12 : ∀ {G : Prop}, (((ver == 2) = false) → r8 = r7 → b8 = b7 → x8 = false → G) → ((ver == 2) = true → Sf.flagS ⟨r7, b7⟩ = (⟨r8, b8⟩, x8) → G) → G := fun a b => by
    rcases hver with rfl | rfl
    · rw [if_neg (by decide)] at h8
      injection h8 with h8 h9
      injection h8 with h8 h10
      exact a rfl h8.symm h10.symm h9.symm
    · rw [if_pos rfl] at h8
      exact b rfl h8
  have hval := h8
  refine hv12 (fun e2 er eb ex => ?_) (fun e2 hf => ?_)
  · (refine AX.run0 e2 ?_)
    subst er; subst eb; subst ex
    refine use (a_count (i := 1) (r := r8) rfl (by omega)) ?_
    have lc := Wire.cntR_rest r8 1
    have lk := Wire.cntR_cnt r8
    obtain ⟨⟨rc, c⟩, hc⟩ : ∃ q, Wire.cntR r8 1 = q := ⟨_, rfl⟩
    rw [hc] at lc lk ⊢
    dsimp only at lc lk ⊢
    obtain ⟨⟨⟨rr, bw⟩, dw⟩, hw⟩ : ∃ q, Sf.wordsS c ⟨rc, b8⟩ [] = q := ⟨_, rfl⟩
    (refine AX.run0 True.intro ?_)
    refine awp_loop (fun mm ts h => ∃ (j : Nat) (p : Wire.St) (ds : List (List UInt8)) (W : Nat) (o : Own) (t : List (TypeId × Nat × Nat)), mm = c - j ∧ j ≤ c ∧
      h = ⟨[.cells 108 [.ptr 1 0, .int .i64 ver, .bool b8], rdr p, .cells 46 [.str [], .str [], .str [], .str [], .int .i64 0, .int .i64 0, .str [], .sl 0 .nil [], .sl 0 .nil [], .int .i64 0, .bool false, .bool false, .sl 0 .nil []], .cells 46 [.str x1, .str x2, .str x3, .str x4, .int .i64 vk, .int .i64 vn, .str vs, .sl 5 .no (V.cellss vi), .sl 1 .no (strsA vy), .int .i64 x6, .bool x7, .bool false, .sl W o (strsA ds)]], t⟩ ∧
      Sf.wordsS (c - j) ⟨p, b8⟩ ds = (⟨rr, bw⟩, dw) ∧ ds.length = j ∧ p.rest.length ≤ rc.rest.length ∧ Gs 9 1 0 ⟨[], t⟩ (strsA ds) (.sl W o (strsA ds)) ∧
      ts 0 = .ptr 0 0 ∧ ts 2 = .ptr 2 0 ∧ ts 3 = .ptr 3 0 ∧ ts 49 = .int .i64 (c : Nat) ∧ ts 50 = .int .i64 (j : Nat)) c ?_ ?_
    · exact ⟨0, rc, [], 0, .nil, [], by omega, by omega, rfl, hw, rfl, Nat.le_refl _, .inl ⟨rfl, rfl⟩, by (exact AX.ev0 True.intro), by (exact AX.ev0 True.intro), by (exact AX.ev0 True.intro), by (exact AX.ev0 True.intro), by (exact AX.inv0 True.intro)⟩
    · rintro mm ts h ⟨j, p, ds, W, o, t, rfl, hjc, rfl, hit, hdl, hpl, gX, t0, t2, t3, t49, t50⟩
      by_cases hj : j < c
      · have hlt : (j : Int) < (c : Int) := by omega
        have ei : IntKind.i64.wrap ((j : Int) + 1) = ((j + 1 : Nat) : Int) := by rw [wrap64 (by omega) (by omega)]; omega
        have lp := Wire.strR_rest p
        have cp := fun h hb => str p (Wire.strR p).1 (Wire.strR p).2 h rfl hb (by omega)
        obtain ⟨⟨p2, s2⟩, hp2⟩ : ∃ q, Wire.strR p = q := ⟨_, rfl⟩
        have hstep : Sf.wordsS (c - (j + 1)) ⟨p2, b8⟩ (ds ++ [s2]) = (⟨rr, bw⟩, dw) := by
          rw [show c - j = (c - (j + 1)) + 1 by omega, Sf.wordsS] at hit
          unfold Sf.strS at hit
          simp only [hp2] at hit
          exact hit
        rw [hp2] at lp cp
        dsimp only at lp cp
        obtain ⟨W', o', t', hX, gX', _⟩ := gX.grow 16 [.str s2] (by rw [strsA_length]; omega) (by decide)
        rw [← strsA_app] at gX'
        simp only [← strsA_app] at hX
        (refine AX.run0 (And.intro t0 (And.intro t2 (And.intro t3 (And.intro t49 (And.intro t50 hlt))))) ?_)
        refine use (cp _ rfl) ?_
        (refine AX.run0 (And.intro t0 (And.intro t2 (And.intro t3 (And.intro t49 (And.intro t50 (And.intro hX ei)))))) ?_)
        exact ⟨c - (j + 1), by omega, j + 1, p2, ds ++ [s2], W', o', t', rfl, by omega, rfl, hstep, by simp [hdl], by omega, gX', by (exact AX.ev0 t0), by (exact AX.ev0 t2), by (exact AX.ev0 t3), by (exact AX.ev0 t49), by (exact AX.ev0 ei)⟩
      · have hlt : ¬ ((j : Int) < (c : Int)) := by omega
        rw [show c - j = 0 by omega, Sf.wordsS] at hit
        injection hit with hit hit2
        injection hit with hit hit3
        subst hit; subst hit2; subst hit3
        (refine AX.run0 (And.intro t0 (And.intro t2 (And.intro t3 (And.intro t49 (And.intro t50 hlt))))) ?_)
        rw [hfin _ _ _ _ hval hc hw]
        exact ⟨.agg [.str x1, .str x2, .str x3, .str x4, .int .i64 vk, .int .i64 vn, .str vs, .sl 5 .no (V.cellss vi), .sl 1 .no (strsA vy), .int .i64 x6, .bool x7, .bool false, .sl 1 .no (strsA ds)], ⟨le1_refl _, le1_refl _, le1_refl _, le1_refl _, le1_refl _, le1_refl _, le1_refl _, le1_refl _, le1_refl _, le1_refl _, le1_refl _, le1_refl _, Gs.le gX, trivial⟩, rfl, rfl, rfl⟩
  · (refine AX.run0 e2 ?_)
    rw [hf] at c8
    dsimp only at c8
    refine use c8 ?_
    (refine AX.run0 True.intro ?_)
    refine use (a_count (i := 1) (r := r8) rfl (by omega)) ?_
    have lc := Wire.cntR_rest r8 1
    have lk := Wire.cntR_cnt r8
    obtain ⟨⟨rc, c⟩, hc⟩ : ∃ q, Wire.cntR r8 1 = q := ⟨_, rfl⟩
    rw [hc] at lc lk ⊢
    dsimp only at lc lk ⊢
    obtain ⟨⟨⟨rr, bw⟩, dw⟩, hw⟩ : ∃ q, Sf.wordsS c ⟨rc, b8⟩ [] = q := ⟨_, rfl⟩
    (refine AX.run0 True.intro ?_)
    refine awp_loop (fun mm ts h => ∃ (j : Nat) (p : Wire.St) (ds : List (List UInt8)) (W : Nat) (o : Own) (t : List (TypeId × Nat × Nat)), mm = c - j ∧ j ≤ c ∧
      h = ⟨[.cells 108 [.ptr 1 0, .int .i64 ver, .bool b8], rdr p, .cells 46 [.str [], .str [], .str [], .str [], .int .i64 0, .int .i64 0, .str [], .sl 0 .nil [], .sl 0 .nil [], .int .i64 0, .bool false, .bool false, .sl 0 .nil []], .cells 46 [.str x1, .str x2, .str x3, .str x4, .int .i64 vk, .int .i64 vn, .str vs, .sl 5 .no (V.cellss vi), .sl 1 .no (strsA vy), .int .i64 x6, .bool x7, .bool x8, .sl W o (strsA ds)]], t⟩ ∧
      Sf.wordsS (c - j) ⟨p, b8⟩ ds = (⟨rr, bw⟩, dw) ∧ ds.length = j ∧ p.rest.length ≤ rc.rest.length ∧ Gs 9 1 0 ⟨[], t⟩ (strsA ds) (.sl W o (strsA ds)) ∧
      ts 0 = .ptr 0 0 ∧ ts 2 = .ptr 2 0 ∧ ts 3 = .ptr 3 0 ∧ ts 49 = .int .i64 (c : Nat) ∧ ts 50 = .int .i64 (j : Nat)) c ?_ ?_
    · exact ⟨0, rc, [], 0, .nil, [], by omega, by omega, rfl, hw, rfl, Nat.le_refl _, .inl ⟨rfl, rfl⟩, by (exact AX.ev0 True.intro), by (exact AX.ev0 True.intro), by (exact AX.ev0 True.intro), by (exact AX.ev0 True.intro), by (exact AX.inv0 True.intro)⟩
    · rintro mm ts h ⟨j, p, ds, W, o, t, rfl, hjc, rfl, hit, hdl, hpl, gX, t0, t2, t3, t49, t50⟩
      by_cases hj : j < c
      · have hlt : (j : Int) < (c : Int) := by omega
        have ei : IntKind.i64.wrap ((j : Int) + 1) = ((j + 1 : Nat) : Int) := by rw [wrap64 (by omega) (by omega)]; omega
        have lp := Wire.strR_rest p
        have cp := fun h hb => str p (Wire.strR p).1 (Wire.strR p).2 h rfl hb (by omega)
        obtain ⟨⟨p2, s2⟩, hp2⟩ : ∃ q, Wire.strR p = q := ⟨_, rfl⟩
        have hstep : Sf.wordsS (c - (j + 1)) ⟨p2, b8⟩ (ds ++ [s2]) = (⟨rr, bw⟩, dw) := by
          rw [show c - j = (c - (j + 1)) + 1 by omega, Sf.wordsS] at hit
          unfold Sf.strS at hit
          simp only [hp2] at hit
          exact hit
        rw [hp2] at lp cp
        dsimp only at lp cp
        obtain ⟨W', o', t', hX, gX', _⟩ := gX.grow 16 [.str s2] (by rw [strsA_length]; omega) (by decide)
        rw [← strsA_app] at gX'
        simp only [← strsA_app] at hX
        (refine AX.run0 (And.intro t0 (And.intro t2 (And.intro t3 (And.intro t49 (And.intro t50 hlt))))) ?_)
        refine use (cp _ rfl) ?_
        (refine AX.run0 (And.intro t0 (And.intro t2 (And.intro t3 (And.intro t49 (And.intro t50 (And.intro hX ei)))))) ?_)
        exact ⟨c - (j + 1), by omega, j + 1, p2, ds ++ [s2], W', o', t', rfl, by omega, rfl, hstep, by simp [hdl], by omega, gX', by (exact AX.ev0 t0), by (exact AX.ev0 t2), by (exact AX.ev0 t3), by (exact AX.ev0 t49), by (exact AX.ev0 ei)⟩
      · have hlt : ¬ ((j : Int) < (c : Int)) := by omega
        rw [show c - j = 0 by omega, Sf.wordsS] at hit
        injection hit with hit hit2
        injection hit with hit hit3
        subst hit; subst hit2; subst hit3
        (refine AX.run0 (And.intro t0 (And.intro t2 (And.intro t3 (And.intro t49 (And.intro t50 hlt))))) ?_)
        rw [hfin _ _ _ _ hval hc hw]
        exact ⟨.agg [.str x1, .str x2, .str x3, .str x4, .int .i64 vk, .int .i64 vn, .str vs, .sl 5 .no (V.cellss vi), .sl 1 .no (strsA vy), .int .i64 x6, .bool x7, .bool x8, .sl 1 .no (strsA ds)], ⟨le1_refl _, le1_refl _, le1_refl _, le1_refl _, le1_refl _, le1_refl _, le1_refl _, le1_refl _, le1_refl _, le1_refl _, le1_refl _, le1_refl _, Gs.le gX, trivial⟩, rfl, rfl, rfl⟩
end AX
end Go.Proofs.YtkhhnkceiibmfaaGreatDoor

namespace Go.Proofs.YtkhhnkceiibmfaaGreatDoor
open Go.RowKit
set_option linter.unusedSimpArgs false
set_option linter.unusedVariables false
set_option maxHeartbeats 4000000
namespace Sf
theorem instS_le (ver : Int) (s : Rs) : (instS ver s).1.r.rest.length ≤ s.r.rest.length := by
  unfold instS
  dsimp only
  refine Nat.le_trans (wordsS_le _ _ _) (Nat.le_trans (cntS_le _) ?_)
  have k : (flagS (numS (valueS (strS (strS (strS (strS s).1).1).1).1).1).1).1.r.rest.length ≤ s.r.rest.length :=
    Nat.le_trans (flagS_le _) (Nat.le_trans (numS_le _) (Nat.le_trans (valueS_le _) (Nat.le_trans (strS_le _) (Nat.le_trans (strS_le _) (Nat.le_trans (strS_le _) (strS_le _))))))
  split
  · exact Nat.le_trans (flagS_le _) k
  · exact k
end Sf
namespace AX
def c_rstate : AX.AFn := ⟨98, .seq (.reg false [⟨some 2, .alloc 26 [.str [], .int .i64 0, .sl 0 .nil [], .sl 0 .nil [], .sl 0 .nil []], none, []⟩]) (.seq (.reg true [⟨some 5, .mv (.t 0), none, []⟩, ⟨some 6, .nilck (.t 5), none, [0]⟩, ⟨some 7, .faddr 0 (.t 6), none, [1]⟩, ⟨some 8, .load false 1 (.t 7), none, [2]⟩, ⟨some 9, .call 129 [.t 8], none, [3]⟩, ⟨some 10, .mv (.t 0), none, []⟩, ⟨some 11, .nilck (.t 10), none, [5]⟩, ⟨some 12, .faddr 0 (.t 11), none, [6]⟩, ⟨some 13, .load false 1 (.t 12), none, [7]⟩, ⟨some 14, .call 66 [.t 13], none, [8, 4]⟩, ⟨some 15, .build [.str [], .int .i64 0, .sl 0 .nil [], .sl 0 .nil [], .sl 0 .nil []] [(0, 1, .t 9), (1, 1, .t 14)], none, [4, 9]⟩, ⟨some 3, .alloc 26 [.str [], .int .i64 0, .sl 0 .nil [], .sl 0 .nil [], .sl 0 .nil []], none, []⟩, ⟨none, .store 5 (.t 3) (.t 15), none, [11, 10, 9, 0, 1, 2, 3, 4, 5, 6, 7, 8, 9, 10, 11]⟩]) (.seq (.seq (.reg false [⟨some 16, .mv (.t 0), none, []⟩, ⟨some 17, .nilck (.t 16), none, []⟩, ⟨some 18, .faddr 0 (.t 17), none, []⟩, ⟨some 19, .load false 1 (.t 18), none, []⟩, ⟨some 20, .call 130 [.t 19, .c (.int .i64 1)], none, []⟩, ⟨some 21, .mv (.c (.int .i64 0)), none, []⟩]) (.block 0 (.loop (.seq (.reg false [⟨some 22, .bin .lss (.t 21) (.t 20), none, []⟩]) (.seq (.cond (.t 22) (.skip) (.exit 0)) (.seq (.block 1 (.seq (.seq (.reg false [⟨some 23, .mv (.t 0), none, []⟩, ⟨some 24, .call 68 [.t 23], none, []⟩]) (.cond (.t 24) (.seq (.reg false [⟨some 25, .load true 5 (.t 3), none, []⟩, ⟨none, .store 5 (.t 2) (.t 25), none, []⟩]) (.ret)) (.skip))) (.reg true [⟨some 26, .faddr 2 (.t 3), none, []⟩, ⟨some 27, .load false 1 (.t 26), none, [0]⟩, ⟨some 28, .mv (.t 0), none, []⟩, ⟨some 29, .call 131 [.t 28], none, [2]⟩, ⟨some 30, .mks 13 [.t 29], none, [3]⟩, ⟨some 31, .app 46 13 184 (.t 27) (.t 30), none, [1, 4, 3]⟩, ⟨some 32, .faddr 2 (.t 3), none, [0, 1, 2, 3, 4, 5]⟩, ⟨none, .store 1 (.t 32) (.t 31), none, [6, 5, 5, 0, 1, 2, 3, 4, 5]⟩]))) (.reg false [⟨some 33, .bin .add (.t 21) (.c (.int .i64 1)), none, []⟩, ⟨some 21, .mv (.t 33), none, []⟩]))))))) (.seq (.seq (.reg false [⟨some 34, .mv (.t 0), none, []⟩, ⟨some 35, .nilck (.t 34), none, []⟩, ⟨some 36, .faddr 1 (.t 35), none, []⟩, ⟨some 37, .load false 1 (.t 36), none, []⟩, ⟨some 38, .bin .eql (.t 37) (.c (.int .i64 2)), none, []⟩]) (.cond (.t 38) (.seq (.reg false [⟨some 39, .mv (.t 0), none, []⟩, ⟨some 40, .nilck (.t 39), none, []⟩, ⟨some 41, .faddr 0 (.t 40), none, []⟩, ⟨some 42, .load false 1 (.t 41), none, []⟩, ⟨some 43, .call 130 [.t 42, .c (.int .i64 1)], none, []⟩, ⟨some 44, .mv (.c (.int .i64 0)), none, []⟩]) (.block 2 (.loop (.seq (.reg false [⟨some 45, .bin .lss (.t 44) (.t 43), none, []⟩]) (.seq (.cond (.t 45) (.skip) (.exit 2)) (.seq (.block 3 (.reg true [⟨some 46, .faddr 3 (.t 3), none, []⟩, ⟨some 47, .load false 1 (.t 46), none, [0]⟩, ⟨some 48, .mv (.t 0), none, []⟩, ⟨some 49, .nilck (.t 48), none, [2]⟩, ⟨some 50, .faddr 0 (.t 49), none, [3]⟩, ⟨some 51, .load false 1 (.t 50), none, [4]⟩, ⟨some 52, .call 129 [.t 51], none, [5]⟩, ⟨some 53, .mv (.t 0), none, []⟩, ⟨some 54, .nilck (.t 53), none, [7]⟩, ⟨some 55, .faddr 0 (.t 54), none, [8]⟩, ⟨some 56, .load false 1 (.t 55), none, [9]⟩, ⟨some 57, .call 129 [.t 56], none, [10, 6]⟩, ⟨some 58, .mv (.t 0), none, []⟩, ⟨some 59, .nilck (.t 58), none, [12]⟩, ⟨some 60, .faddr 0 (.t 59), none, [13]⟩, ⟨some 61, .load false 1 (.t 60), none, [14]⟩, ⟨some 62, .call 129 [.t 61], none, [15, 11]⟩, ⟨some 63, .build [.str [], .str [], .str []] [(0, 1, .t 52), (1, 1, .t 57), (2, 1, .t 62)], none, [6, 11, 16]⟩, ⟨some 64, .mks 3 [.t 63], none, [17]⟩, ⟨some 65, .app 121 3 48 (.t 47) (.t 64), none, [1, 18, 16]⟩, ⟨some 66, .faddr 3 (.t 3), none, [0, 1, 2, 3, 4, 5, 6, 7, 8, 9, 10, 11, 12, 13, 14, 15, 16, 17, 18, 19]⟩, ⟨none, .store 1 (.t 66) (.t 65), none, [20, 19, 19, 0, 1, 2, 3, 4, 5, 6, 7, 8, 9, 10, 11, 12, 13, 14, 15, 16, 17, 18, 19]⟩])) (.reg false [⟨some 67, .bin .add (.t 44) (.c (.int .i64 1)), none, []⟩, ⟨some 44, .mv (.t 67), none, []⟩]))))))) (.skip))) (.seq (.seq (.reg false [⟨some 68, .mv (.t 0), none, []⟩, ⟨some 69, .nilck (.t 68), none, []⟩, ⟨some 70, .faddr 0 (.t 69), none, []⟩, ⟨some 71, .load false 1 (.t 70), none, []⟩, ⟨some 72, .call 130 [.t 71, .c (.int .i64 1)], none, []⟩, ⟨some 73, .mv (.c (.int .i64 0)), none, []⟩]) (.block 4 (.loop (.seq (.reg false [⟨some 74, .bin .lss (.t 73) (.t 72), none, []⟩]) (.seq (.cond (.t 74) (.skip) (.exit 4)) (.seq (.block 5 (.seq (.seq (.reg false [⟨some 75, .mv (.t 0), none, []⟩, ⟨some 76, .call 68 [.t 75], none, []⟩]) (.cond (.t 76) (.seq (.reg false [⟨some 77, .load true 5 (.t 3), none, []⟩, ⟨none, .store 5 (.t 2) (.t 77), none, []⟩]) (.ret)) (.skip))) (.seq (.reg false [⟨some 78, .mv (.t 0), none, []⟩, ⟨some 79, .nilck (.t 78), none, []⟩, ⟨some 80, .faddr 0 (.t 79), none, []⟩, ⟨some 81, .load false 1 (.t 80), none, []⟩, ⟨some 82, .call 129 [.t 81], none, []⟩, ⟨some 83, .build [.str [], .int .i64 0, .int .i64 0, .str [], .sl 0 .nil [], .sl 0 .nil [], .bool false] [(0, 1, .t 82)], none, []⟩, ⟨some 4, .alloc 123 [.str [], .int .i64 0, .int .i64 0, .str [], .sl 0 .nil [], .sl 0 .nil [], .bool false], none, []⟩, ⟨none, .store 7 (.t 4) (.t 83), none, []⟩]) (.seq (.reg false [⟨some 84, .mv (.t 0), none, []⟩, ⟨some 85, .call 132 [.t 84], none, []⟩, ⟨some 86, .faddr 1 (.t 4), none, []⟩, ⟨none, .store 5 (.t 86) (.t 85), none, []⟩]) (.seq (.reg false [⟨some 87, .mv (.t 0), none, []⟩, ⟨some 88, .call 133 [.t 87], none, []⟩, ⟨some 89, .faddr 6 (.t 4), none, []⟩, ⟨none, .store 1 (.t 89) (.t 88), none, []⟩]) (.reg false [⟨some 90, .faddr 4 (.t 3), none, []⟩, ⟨some 91, .load false 1 (.t 90), none, []⟩, ⟨some 92, .load true 7 (.t 4), none, []⟩, ⟨some 93, .mks 7 [.t 92], none, []⟩, ⟨some 94, .app 123 7 104 (.t 91) (.t 93), none, []⟩, ⟨some 95, .faddr 4 (.t 3), none, []⟩, ⟨none, .store 1 (.t 95) (.t 94), none, []⟩])))))) (.reg false [⟨some 96, .bin .add (.t 73) (.c (.int .i64 1)), none, []⟩, ⟨some 73, .mv (.t 96), none, []⟩]))))))) (.seq (.reg false [⟨some 97, .load true 5 (.t 3), none, []⟩, ⟨none, .store 5 (.t 2) (.t 97), none, []⟩]) (.ret)))))), [.c 2 true 5]⟩
theorem h_rstate : AX.compFn Tryz.prog 67 = some c_rstate := by kernel_rfl

theorem a_rstate {ver : Int} (hver : ver = 1 ∨ ver = 2) (s : Sf.Rs) (hl : s.r.rest.length ≤ 100000000) (l : List Blk) (t : List (TypeId × Nat × Nat)) :
    ACall Tryz.prog GT 67 [.ptr 0 0] ⟨RB ver s.bad :: rdr s.r :: l, t⟩ fun v h' => v = (Sf.stateS ver s).2.A ∧ h' = ⟨RB ver (Sf.stateS ver s).1.bad :: rdr (Sf.stateS ver s).1.r :: l, t⟩ := by
  refine liftR (s' := (Sf.stateS ver s).1) (v := (Sf.stateS ver s).2.A) ?_ rfl rfl l t
  refine acall_of mixedT h_rstate (by simp [c_rstate]) ?_
  dsimp only [c_rstate]
  unfold RB
  obtain ⟨⟨r1, x1⟩, h1⟩ : ∃ q, Wire.strR s.r = q := ⟨_, rfl⟩
  have l1 := Wire.strR_rest s.r
  rw [h1] at l1
  obtain ⟨⟨r2, x2⟩, h2⟩ : ∃ q, Wire.numR r1 = q := ⟨_, rfl⟩
  have l2 := Wire.numR_rest r1
  rw [h2] at l2
  obtain ⟨⟨rc, c⟩, hc⟩ : ∃ q, Wire.cntR r2 1 = q := ⟨_, rfl⟩
  have lc := Wire.cntR_rest r2 1
  have lk := Wire.cntR_cnt r2
  rw [hc] at lc lk
  dsimp only at l1 l2 lc lk
  have str : ∀ (r r' : Wire.St) (x : List UInt8) (h : Hp), Wire.strR r = (r', x) → h.b[1]? = some (rdr r) → r.rest.length ≤ 100000000 → ACall Tryz.prog GT 129 [.ptr 1 0] h fun v h' => v = .str x ∧ h' = ⟨h.b.set 1 (rdr r'), h.t⟩ := fun r r' x h e hb hl => by
    have := a_rstring hb hl
    rw [e] at this; exact this
  have num : ∀ (r r' : Wire.St) (x : Int) (h : Hp), Wire.numR r = (r', x) → h.b[1]? = some (rdr r) → r.rest.length ≤ 100000000 → ACall Tryz.prog GT 66 [.ptr 1 0] h fun v h' => v = .int .i64 x ∧ h' = ⟨h.b.set 1 (rdr r'), h.t⟩ := fun r r' x h e hb hl => by
    have := a_number hb hl
    rw [e] at this; exact this
  have cnt : ∀ (r r' : Wire.St) (x : Nat) (h : Hp), Wire.cntR r 1 = (r', x) → h.b[1]? = some (rdr r) → r.rest.length ≤ 100000000 → ACall Tryz.prog GT 130 [.ptr 1 0, .int .i64 1] h fun v h' => v = .int .i64 (x : Nat) ∧ h' = ⟨h.b.set 1 (rdr r'), h.t⟩ := fun r r' x h e hb hl => by
    have := a_count hb hl
    rw [e] at this; exact this
  obtain ⟨res, hres⟩ : ∃ q, Sf.instsS ver c ⟨rc, s.bad⟩ [] = q := ⟨_, rfl⟩
  have hS : Sf.stateS ver s = (if res.2.2 = false then (res.1, ⟨x1, x2, res.2.1, [], []⟩) else
      let p := if ver = 2 then Sf.pendsS (Sf.cntS res.1).2 (Sf.cntS res.1).1 [] else (res.1, [])
      let co := Sf.cntS p.1
      let o := Sf.outsS co.2 co.1 []
      (o.1, ⟨x1, x2, res.2.1, p.2, o.2.1⟩)) := by
    rw [← hres]
    unfold Sf.stateS Sf.strS Sf.numS
    simp only [h1, h2]
    rw [show Sf.cntS ⟨r2, s.bad⟩ = (⟨rc, s.bad⟩, c) by unfold Sf.cntS; simp only [hc]]
  have fin1 : ∀ {p : Sf.Rs} {is : List Sf.Inst}, (p, is, false) = res → Sf.stateS ver s = (p, ⟨x1, x2, is, [], []⟩) := fun e => by rw [hS, ← e]; rfl
  have fin2 : ∀ {p : Sf.Rs} {is : List Sf.Inst}, (p, is, true) = res → ∀ (q : Sf.Rs) (ps : List Sf.Pend) (rc3 : Wire.St) (c3 : Nat) {r3 : Sf.Rs × List Sf.Outp × Bool}, (if ver = 2 then Sf.pendsS (Sf.cntS p).2 (Sf.cntS p).1 [] else (p, [])) = (q, ps) → Wire.cntR q.r 1 = (rc3, c3) → Sf.outsS c3 ⟨rc3, q.bad⟩ [] = r3 → Sf.stateS ver s = (r3.1, ⟨x1, x2, is, ps, r3.2.1⟩) := by
    intro p is e q ps rc3 c3 r3 h h3 hr
    rw [hS, ← e]
    dsimp only
    rw [if_neg (by decide), h]
    dsimp only
    rw [show Sf.cntS q = (⟨rc3, q.bad⟩, c3) by unfold Sf.cntS; rw [h3]]
    dsimp only
    rw [hr]
  have hv12 : ∀ {G : Prop}, ((ver == 2) = false → G) → ((ver == 2) = true → G) → G := fun p q => by
    rcases bool_or (ver == 2) with e | e
    · first | exact q e | exact p e
    · first | exact p e | exact q e
  (refine AX.run0 True.intro ?_)
  refine go_gen [4, 9, 12] 11 [⟨[.cells 108 [.ptr 1 0, .int .i64 ver, .bool s.bad], rdr s.r, .cells 26 [.str [], .int .i64 0, .sl 0 .nil [], .sl 0 .nil [], .sl 0 .nil []]], []⟩, ⟨[.cells 108 [.ptr 1 0, .int .i64 ver, .bool s.bad], rdr r1, .cells 26 [.str [], .int .i64 0, .sl 0 .nil [], .sl 0 .nil [], .sl 0 .nil []]], []⟩, ⟨[.cells 108 [.ptr 1 0, .int .i64 ver, .bool s.bad], rdr r2, .cells 26 [.str [], .int .i64 0, .sl 0 .nil [], .sl 0 .nil [], .sl 0 .nil []]], []⟩, ⟨[], []⟩, ⟨[.cells 108 [.ptr 1 0, .int .i64 ver, .bool s.bad], rdr s.r, .cells 26 [.str [], .int .i64 0, .sl 0 .nil [], .sl 0 .nil [], .sl 0 .nil []], .cells 26 [.str [], .int .i64 0, .sl 0 .nil [], .sl 0 .nil [], .sl 0 .nil []]], []⟩, ⟨[.cells 108 [.ptr 1 0, .int .i64 ver, .bool s.bad], rdr r1, .cells 26 [.str [], .int .i64 0, .sl 0 .nil [], .sl 0 .nil [], .sl 0 .nil []], .cells 26 [.str [], .int .i64 0, .sl 0 .nil [], .sl 0 .nil [], .sl 0 .nil []]], []⟩, ⟨[.cells 108 [.ptr 1 0, .int .i64 ver, .bool s.bad], rdr r2, .cells 26 [.str [], .int .i64 0, .sl 0 .nil [], .sl 0 .nil [], .sl 0 .nil []], .cells 26 [.str [], .int .i64 0, .sl 0 .nil [], .sl 0 .nil [], .sl 0 .nil []]], []⟩, ⟨[.cells 108 [.ptr 1 0, .int .i64 ver, .bool s.bad], rdr r2, .cells 26 [.str [], .int .i64 0, .sl 0 .nil [], .sl 0 .nil [], .sl 0 .nil []], .cells 26 [.str x1, .int .i64 x2, .sl 0 .nil [], .sl 0 .nil [], .sl 0 .nil []]], []⟩] [[0, 4], [0, 4], [0, 4], [0, 4], [0, 4], [0, 1, 4, 5], [0, 1, 4, 5], [0, 1, 4, 5], [0, 1, 4, 5], [1, 5], [2, 6], [0, 1, 2], [6]] rfl (by decide +kernel) ?_
  refine AX.rung True.intro ?_
  refine gn_call (vs := [.ptr 1 0]) (by (exact AX.ev0 True.intro)) ⟨str s.r r1 x1 _ h1 rfl (by omega), str s.r r1 x1 _ h1 rfl (by omega), trivial⟩ ?_
  refine AX.rung True.intro ?_
  refine gn_call (vs := [.ptr 1 0]) (by (exact AX.ev0 True.intro)) ⟨num r1 r2 x2 _ h2 rfl (by omega), num r1 r2 x2 _ h2 rfl (by omega), trivial⟩ ?_
  refine AX.rung True.intro ?_
  (refine AX.run0 True.intro ?_)
  refine use (cnt r2 rc c _ hc rfl (by omega)) ?_
  (refine AX.run0 True.intro ?_)
  refine awp_loop (fun mm ts h => ∃ (j : Nat) (p : Sf.Rs) (is : List Sf.Inst) (W : Nat) (o : Own) (t : List (TypeId × Nat × Nat)), mm = c - j ∧ j ≤ c ∧ h = ⟨[.cells 108 [.ptr 1 0, .int .i64 ver, .bool p.bad], rdr p.r, .cells 26 [.str [], .int .i64 0, .sl 0 .nil [], .sl 0 .nil [], .sl 0 .nil []], .cells 26 [.str x1, .int .i64 x2, (.sl W o (is.map Sf.Inst.cells)), .sl 0 .nil [], .sl 0 .nil []]], t⟩ ∧ Sf.instsS ver (c - j) p is = res ∧ is.length = j ∧ p.r.rest.length ≤ 100000000 ∧ Gs 46 13 0 ⟨[], t⟩ (is.map Sf.Inst.cells) (.sl W o (is.map Sf.Inst.cells)) ∧ ts 0 = .ptr 0 0 ∧ ts 2 = .ptr 2 0 ∧ ts 3 = .ptr 3 0 ∧ ts 20 = .int .i64 (c : Nat) ∧ ts 21 = .int .i64 (j : Nat)) c ?_ ?_
  · exact ⟨0, ⟨rc, s.bad⟩, [], 0, .nil, [], by omega, by omega, rfl, hres, rfl, (by dsimp only; omega), .inl ⟨rfl, rfl⟩, by (exact AX.ev0 True.intro), by (exact AX.ev0 True.intro), by (exact AX.ev0 True.intro), by (exact AX.ev0 True.intro), by (exact AX.inv0 True.intro)⟩
  rintro mm ts h ⟨j, p, is, W, o, t, rfl, hjc, rfl, hit, hdl, hpl, gX, t0, t2, t3, ta, tb⟩
  by_cases hj : j < c
  · have cf := a_rfails (ver := ver) p [.cells 26 [.str [], .int .i64 0, .sl 0 .nil [], .sl 0 .nil [], .sl 0 .nil []], .cells 26 [.str x1, .int .i64 x2, (.sl W o (is.map Sf.Inst.cells)), .sl 0 .nil [], .sl 0 .nil []]] t
    unfold RB at cf
    have hlt : (j : Int) < (c : Int) := by omega
    have ei : IntKind.i64.wrap ((j : Int) + 1) = ((j + 1 : Nat) : Int) := by rw [wrap64 (by omega) (by omega)]; omega
    rw [show c - j = (c - (j + 1)) + 1 by omega] at hit
    unfold Sf.instsS at hit
    (refine AX.run0 (And.intro t0 (And.intro t2 (And.intro t3 (And.intro ta (And.intro tb hlt))))) ?_)
    refine use cf ?_
    rcases bool_or p.fails with e | e
    · rw [e, if_pos rfl] at hit
      rw [e]
      (refine AX.run0 (And.intro t0 (And.intro t2 (And.intro t3 (And.intro ta tb)))) ?_)
      subst hit
      have hfin := fin1 rfl
      exact ⟨.agg [.str x1, .int .i64 x2, .sl 13 .no (is.map Sf.Inst.cells), .sl 3 .no (([] : List Sf.Pend).map Sf.Pend.cells), .sl 7 .no (([] : List Sf.Outp).map Sf.Outp.cells)], ⟨le1_refl _, le1_refl _, Gs.le gX, ⟨rfl, .inr rfl, .inl rfl⟩, ⟨rfl, .inr rfl, .inl rfl⟩, trivial⟩, by rw [hfin]; rfl, by rw [hfin]; rfl, by rw [hfin]; rfl⟩
    rw [e, if_neg (by decide)] at hit
    rw [e]
    have ci := a_rinst hver p hpl [.cells 26 [.str [], .int .i64 0, .sl 0 .nil [], .sl 0 .nil [], .sl 0 .nil []], .cells 26 [.str x1, .int .i64 x2, (.sl W o (is.map Sf.Inst.cells)), .sl 0 .nil [], .sl 0 .nil []]] t
    have li := Sf.instS_le ver p
    obtain ⟨⟨p2, x⟩, hx⟩ : ∃ q, Sf.instS ver p = q := ⟨_, rfl⟩
    rw [hx] at ci hit li
    dsimp only at ci hit li
    unfold RB at ci
    obtain ⟨W', o', t', hX, gX', _⟩ := gX.grow 184 x.cells (by rw [List.length_map]; omega) (by decide)
    have em : is.map Sf.Inst.cells ++ [x.cells] = (is ++ [x]).map Sf.Inst.cells := by simp
    rw [em] at gX'
    simp only [em] at hX
    have hil : (is ++ [x]).length = j + 1 := by simp [hdl]
    obtain ⟨is2, hi2⟩ : ∃ l, is ++ [x] = l := ⟨_, rfl⟩
    rw [hi2] at hX gX' hit hil
    clear em hi2 hx
    obtain ⟨a, d, id, ty, ⟨k, n, w, vi, vy⟩, v, tn, fi, ds⟩ := x
    simp only [Sf.Inst.cells] at ci hX
    (refine AX.run0 (And.intro t0 (And.intro t2 (And.intro t3 (And.intro ta tb)))) ?_)
    refine use ci ?_
    (refine AX.run0 (And.intro t0 (And.intro t2 (And.intro t3 (And.intro ta (And.intro tb (And.intro hX ei)))))) ?_)
    exact ⟨c - (j + 1), by omega, j + 1, p2, is2, W', o', t', rfl, by omega, rfl, hit, hil, by omega, gX', by (exact AX.ev0 t0), by (exact AX.ev0 t2), by (exact AX.ev0 t3), by (exact AX.ev0 ta), by (exact AX.ev0 ei)⟩
  have hlt : ¬ ((j : Int) < (c : Int)) := by omega
  rw [show c - j = 0 by omega] at hit
  unfold Sf.instsS at hit
  subst hit
  have cb : ∀ q : Wire.St, (Wire.cntR q 1).2 ≤ q.rest.length := fun q => Wire.cntR_cnt q
  refine hv12 (fun e2 => ?_) (fun e2 => ?_)
  · have gY : Gs 121 3 0 ⟨[], t⟩ (([] : List Sf.Pend).map Sf.Pend.cells) (.sl 0 .nil (([] : List Sf.Pend).map Sf.Pend.cells)) := .inl ⟨rfl, rfl⟩
    (refine AX.run0 (And.intro t0 (And.intro t2 (And.intro t3 (And.intro ta (And.intro tb (And.intro hlt e2)))))) ?_)
    obtain ⟨q, hq⟩ : ∃ q, p = q := ⟨_, rfl⟩
    obtain ⟨ps, hps⟩ : ∃ ps : List Sf.Pend, [] = ps := ⟨_, rfl⟩
    have fin2 := fin2 rfl
    have hv0 : ver ≠ 2 := by simpa using e2
    subst hq
    obtain ⟨q, hq⟩ : ∃ q, p = q := ⟨_, rfl⟩
    rw [hq] at hpl ⊢
    obtain ⟨⟨rc3, c3⟩, hc3⟩ : ∃ x, Wire.cntR q.r 1 = x := ⟨_, rfl⟩
    have lc3 := Wire.cntR_rest q.r 1
    have lk3 := Wire.cntR_cnt q.r
    rw [hc3] at lc3 lk3
    dsimp only at lc3 lk3
    obtain ⟨res3, hres3⟩ : ∃ x, Sf.outsS c3 ⟨rc3, q.bad⟩ [] = x := ⟨_, rfl⟩
    have fin3 : ∀ {r3 : Sf.Rs × List Sf.Outp × Bool}, r3 = res3 → Sf.stateS ver s = (r3.1, ⟨x1, x2, is, ps, r3.2.1⟩) := fun e => by rw [e]; exact fin2 q ps rc3 c3 (by rw [if_neg hv0, hq, hps]) hc3 hres3
    obtain ⟨W2, o2, hW2⟩ : ∃ (W2 : Nat) (o2 : Own), W2 = 0 ∧ o2 = .nil := ⟨_, _, rfl, rfl⟩
    have hY0 : (A.sl 0 .nil [] : A) = .sl W2 o2 (ps.map Sf.Pend.cells) := by rw [hW2.1, hW2.2, ← hps]; rfl
    rw [hps] at gY
    have gY : Gs 121 3 0 ⟨[], t⟩ (ps.map Sf.Pend.cells) (.sl W2 o2 (ps.map Sf.Pend.cells)) := by rw [hW2.1, hW2.2]; exact gY
    refine use (cnt q.r rc3 c3 _ hc3 rfl (by omega)) ?_
    (refine AX.run0 (And.intro t0 (And.intro t2 t3)) ?_)
    refine awp_loop (fun mm ts h => ∃ (j : Nat) (p : Sf.Rs) (os : List Sf.Outp) (W3 : Nat) (o3 : Own) (l : List Blk) (t : List (TypeId × Nat × Nat)), mm = c3 - j ∧ j ≤ c3 ∧ h = ⟨.cells 108 [.ptr 1 0, .int .i64 ver, .bool p.bad] :: rdr p.r :: .cells 26 [.str [], .int .i64 0, .sl 0 .nil [], .sl 0 .nil [], .sl 0 .nil []] :: .cells 26 [.str x1, .int .i64 x2, (.sl W o (is.map Sf.Inst.cells)), (.sl W2 o2 (ps.map Sf.Pend.cells)), (.sl W3 o3 (os.map Sf.Outp.cells))] :: l, t⟩ ∧ Sf.outsS (c3 - j) p os = res3 ∧ os.length = j ∧ p.r.rest.length ≤ 100000000 ∧ Gs 46 13 0 ⟨[], t⟩ (is.map Sf.Inst.cells) (.sl W o (is.map Sf.Inst.cells)) ∧ Gs 121 3 0 ⟨[], t⟩ (ps.map Sf.Pend.cells) (.sl W2 o2 (ps.map Sf.Pend.cells)) ∧ Gs 123 7 0 ⟨[], t⟩ (os.map Sf.Outp.cells) (.sl W3 o3 (os.map Sf.Outp.cells)) ∧ ts 0 = .ptr 0 0 ∧ ts 2 = .ptr 2 0 ∧ ts 3 = .ptr 3 0 ∧ ts 72 = .int .i64 (c3 : Nat) ∧ ts 73 = .int .i64 (j : Nat)) c3 ?_ ?_
    · exact ⟨0, ⟨rc3, q.bad⟩, [], 0, .nil, [], t, by omega, by omega, (by rw [← hY0]; rfl), hres3, rfl, (by dsimp only; omega), gX, gY, .inl ⟨rfl, rfl⟩, by (exact AX.ev0 t0), by (exact AX.ev0 t2), by (exact AX.ev0 t3), by (exact AX.ev0 True.intro), by (exact AX.inv0 True.intro)⟩
    rintro mm ts h ⟨j, p, os, W3, o3, l, t, rfl, hjc, rfl, hit, hdl, hpl, gX, gY, gZ, t0, t2, t3, ta, tb⟩
    by_cases hj : j < c3
    · have cf := a_rfails (ver := ver) p (.cells 26 [.str [], .int .i64 0, .sl 0 .nil [], .sl 0 .nil [], .sl 0 .nil []] :: .cells 26 [.str x1, .int .i64 x2, (.sl W o (is.map Sf.Inst.cells)), (.sl W2 o2 (ps.map Sf.Pend.cells)), (.sl W3 o3 (os.map Sf.Outp.cells))] :: l) t
      unfold RB at cf
      have hlt : (j : Int) < (c3 : Int) := by omega
      have ei : IntKind.i64.wrap ((j : Int) + 1) = ((j + 1 : Nat) : Int) := by rw [wrap64 (by omega) (by omega)]; omega
      rw [show c3 - j = (c3 - (j + 1)) + 1 by omega] at hit
      unfold Sf.outsS at hit
      (refine AX.run0 (And.intro t0 (And.intro t2 (And.intro t3 (And.intro ta (And.intro tb hlt))))) ?_)
      refine use cf ?_
      rcases bool_or p.fails with e | e
      · rw [e, if_pos rfl] at hit
        rw [e]
        (refine AX.run0 (And.intro t0 (And.intro t2 (And.intro t3 (And.intro ta tb)))) ?_)
        subst hit
        have hfin := fin3 rfl
        exact ⟨.agg [.str x1, .int .i64 x2, .sl 13 .no (is.map Sf.Inst.cells), .sl 3 .no (ps.map Sf.Pend.cells), .sl 7 .no (os.map Sf.Outp.cells)], ⟨le1_refl _, le1_refl _, Gs.le gX, Gs.le gY, Gs.le gZ, trivial⟩, by rw [hfin]; rfl, by rw [hfin]; rfl, by rw [hfin]; rfl⟩
      rw [e, if_neg (by decide)] at hit
      rw [e]
      (refine AX.run0 (And.intro t0 (And.intro t2 (And.intro t3 (And.intro ta tb)))) ?_)
      obtain ⟨⟨q1, y1⟩, g1⟩ : ∃ q, Wire.strR p.r = q := ⟨_, rfl⟩
      have m1 := Wire.strR_rest p.r
      rw [g1] at m1
      dsimp only at m1
      refine use (str p.r q1 y1 _ g1 rfl hpl) ?_
      (refine AX.run0 (And.intro t0 (And.intro t2 (And.intro t3 (And.intro ta tb)))) ?_)
      have cv := a_rvalue (ver := ver) ⟨q1, p.bad⟩ (by dsimp only; omega) (.cells 26 [.str [], .int .i64 0, .sl 0 .nil [], .sl 0 .nil [], .sl 0 .nil []] :: .cells 26 [.str x1, .int .i64 x2, (.sl W o (is.map Sf.Inst.cells)), (.sl W2 o2 (ps.map Sf.Pend.cells)), (.sl W3 o3 (os.map Sf.Outp.cells))] :: (l ++ [.cells 123 [.str y1, .int .i64 0, .int .i64 0, .str [], .sl 0 .nil [], .sl 0 .nil [], .bool false]])) t
      have m2 := Sf.valueS_le ⟨q1, p.bad⟩
      obtain ⟨⟨⟨q2, b2⟩, y2⟩, g2⟩ : ∃ q, Sf.valueS ⟨q1, p.bad⟩ = q := ⟨_, rfl⟩
      rw [g2] at cv m2
      dsimp only at cv m2
      obtain ⟨⟨⟨q3, b3⟩, y3⟩, g3⟩ : ∃ q, Sf.flagS ⟨q2, b2⟩ = q := ⟨_, rfl⟩
      have m3 := Sf.flagS_le ⟨q2, b2⟩
      rw [g3] at m3
      dsimp only at m3
      have ho : Sf.outS p = (⟨q3, b3⟩, ⟨y1, y2, y3⟩) := by unfold Sf.outS Sf.strS; simp only [g1, g2, g3]
      rw [ho] at hit
      dsimp only at hit
      obtain ⟨x, hxe⟩ : ∃ x : Sf.Outp, x = ⟨y1, y2, y3⟩ := ⟨_, rfl⟩
      rw [← hxe] at hit
      obtain ⟨W', o', t', hX, gZ', kZ⟩ := gZ.grow 104 x.cells (by rw [List.length_map]; omega) (by decide)
      have gX' := kZ _ _ _ _ (by decide) gX
      have gY' := kZ _ _ _ _ (by decide) gY
      have em : os.map Sf.Outp.cells ++ [x.cells] = (os ++ [x]).map Sf.Outp.cells := by simp
      rw [em] at gZ'
      simp only [em] at hX
      have hil : (os ++ [x]).length = j + 1 := by simp [hdl]
      obtain ⟨os2, hi2⟩ : ∃ l, os ++ [x] = l := ⟨_, rfl⟩
      rw [hi2] at hX gZ' hit hil
      clear em hi2
      subst hxe
      obtain ⟨k, n, w, vi, vy⟩ := y2
      have hVA : (V.mk k n w vi vy).A = .agg [.int .i64 k, .int .i64 n, .str w, .sl 5 .no (V.cellss vi), .sl 1 .no (strsA vy)] := by simp only [V.A, V.cells]
      rw [hVA] at cv
      unfold RB at cv
      simp only [Sf.Outp.cells] at hX
      refine use cv ?_
      (refine AX.run0 (And.intro t0 (And.intro t2 (And.intro t3 (And.intro ta tb)))) ?_)
      have cg := a_rflag (ver := ver) ⟨q2, b2⟩ (by dsimp only; omega) (.cells 26 [.str [], .int .i64 0, .sl 0 .nil [], .sl 0 .nil [], .sl 0 .nil []] :: .cells 26 [.str x1, .int .i64 x2, (.sl W o (is.map Sf.Inst.cells)), (.sl W2 o2 (ps.map Sf.Pend.cells)), (.sl W3 o3 (os.map Sf.Outp.cells))] :: (l ++ [.cells 123 [.str y1, .int .i64 k, .int .i64 n, .str w, .sl 5 .no (V.cellss vi), .sl 1 .no (strsA vy), .bool false]])) t
      rw [g3] at cg
      dsimp only at cg
      unfold RB at cg
      refine use cg ?_
      (refine AX.run0 (And.intro t0 (And.intro t2 (And.intro t3 (And.intro ta (And.intro tb (And.intro hX ei)))))) ?_)
      exact ⟨c3 - (j + 1), by omega, j + 1, ⟨q3, b3⟩, os2, W', o', l ++ [.cells 123 [.str y1, .int .i64 k, .int .i64 n, .str w, .sl 5 .no (V.cellss vi), .sl 1 .no (strsA vy), .bool y3]], t', rfl, by omega, rfl, hit, hil, (by dsimp only; omega), gX', gY', gZ', by (exact AX.ev0 t0), by (exact AX.ev0 t2), by (exact AX.ev0 t3), by (exact AX.ev0 ta), by (exact AX.ev0 ei)⟩
    have hlt : ¬ ((j : Int) < (c3 : Int)) := by omega
    rw [show c3 - j = 0 by omega] at hit
    unfold Sf.outsS at hit
    subst hit
    (refine AX.run0 (And.intro t0 (And.intro t2 (And.intro t3 (And.intro ta (And.intro tb hlt))))) ?_)
    have hfin := fin3 rfl
    exact ⟨.agg [.str x1, .int .i64 x2, .sl 13 .no (is.map Sf.Inst.cells), .sl 3 .no (ps.map Sf.Pend.cells), .sl 7 .no (os.map Sf.Outp.cells)], ⟨le1_refl _, le1_refl _, Gs.le gX, Gs.le gY, Gs.le gZ, trivial⟩, by rw [hfin]; rfl, by rw [hfin]; rfl, by rw [hfin]; rfl⟩
  · obtain ⟨⟨rc2, c2⟩, hc2⟩ : ∃ x, Wire.cntR p.r 1 = x := ⟨_, rfl⟩
    have lc2 := Wire.cntR_rest p.r 1
    have lk2 := Wire.cntR_cnt p.r
    rw [hc2] at lc2 lk2
    dsimp only at lc2 lk2
    obtain ⟨res2, hres2⟩ : ∃ x, Sf.pendsS c2 ⟨rc2, p.bad⟩ [] = x := ⟨_, rfl⟩
    have hv2 : ver = 2 := by simpa using e2
    have fin2 := fin2 rfl
    have hp2 : (if ver = 2 then Sf.pendsS (Sf.cntS p).2 (Sf.cntS p).1 [] else (p, [])) = res2 := by rw [if_pos hv2]; unfold Sf.cntS; rw [hc2]; exact hres2
    rw [hp2] at fin2
    (refine AX.run0 (And.intro t0 (And.intro t2 (And.intro t3 (And.intro ta (And.intro tb (And.intro hlt e2)))))) ?_)
    refine use (cnt p.r rc2 c2 _ hc2 rfl (by omega)) ?_
    (refine AX.run0 (And.intro t0 (And.intro t2 t3)) ?_)
    refine awp_loop (fun mm ts h => ∃ (j : Nat) (p : Sf.Rs) (ps : List Sf.Pend) (W2 : Nat) (o2 : Own) (t : List (TypeId × Nat × Nat)), mm = c2 - j ∧ j ≤ c2 ∧ h = ⟨[.cells 108 [.ptr 1 0, .int .i64 ver, .bool p.bad], rdr p.r, .cells 26 [.str [], .int .i64 0, .sl 0 .nil [], .sl 0 .nil [], .sl 0 .nil []], .cells 26 [.str x1, .int .i64 x2, (.sl W o (is.map Sf.Inst.cells)), (.sl W2 o2 (ps.map Sf.Pend.cells)), .sl 0 .nil []]], t⟩ ∧ Sf.pendsS (c2 - j) p ps = res2 ∧ ps.length = j ∧ p.r.rest.length ≤ 100000000 ∧ Gs 46 13 0 ⟨[], t⟩ (is.map Sf.Inst.cells) (.sl W o (is.map Sf.Inst.cells)) ∧ Gs 121 3 0 ⟨[], t⟩ (ps.map Sf.Pend.cells) (.sl W2 o2 (ps.map Sf.Pend.cells)) ∧ ts 0 = .ptr 0 0 ∧ ts 2 = .ptr 2 0 ∧ ts 3 = .ptr 3 0 ∧ ts 43 = .int .i64 (c2 : Nat) ∧ ts 44 = .int .i64 (j : Nat)) c2 ?_ ?_
    · exact ⟨0, ⟨rc2, p.bad⟩, [], 0, .nil, t, by omega, by omega, rfl, hres2, rfl, (by dsimp only; omega), gX, .inl ⟨rfl, rfl⟩, by (exact AX.ev0 t0), by (exact AX.ev0 t2), by (exact AX.ev0 t3), by (exact AX.ev0 True.intro), by (exact AX.inv0 True.intro)⟩
    rintro mm ts h ⟨j, q, ps, W2, o2, t, rfl, hjc, rfl, hit, hdl, hpl, gX, gY, t0, t2, t3, ta, tb⟩
    by_cases hj : j < c2
    · have hq := hpl
      have hlt : (j : Int) < (c2 : Int) := by omega
      have ei : IntKind.i64.wrap ((j : Int) + 1) = ((j + 1 : Nat) : Int) := by rw [wrap64 (by omega) (by omega)]; omega
      rw [show c2 - j = (c2 - (j + 1)) + 1 by omega] at hit
      unfold Sf.pendsS at hit
      obtain ⟨⟨q1, y1⟩, g1⟩ : ∃ x, Wire.strR q.r = x := ⟨_, rfl⟩
      have m1 := Wire.strR_rest q.r
      rw [g1] at m1
      dsimp only at m1
      obtain ⟨⟨q2, y2⟩, g2⟩ : ∃ x, Wire.strR q1 = x := ⟨_, rfl⟩
      have m2 := Wire.strR_rest q1
      rw [g2] at m2
      dsimp only at m2
      obtain ⟨⟨q3, y3⟩, g3⟩ : ∃ x, Wire.strR q2 = x := ⟨_, rfl⟩
      have m3 := Wire.strR_rest q2
      rw [g3] at m3
      dsimp only at m3
      have ho : Sf.pendS q = (⟨q3, q.bad⟩, ⟨y1, y2, y3⟩) := by unfold Sf.pendS Sf.strS; simp only [g1, g2, g3]
      rw [ho] at hit
      dsimp only at hit
      obtain ⟨x, hxe⟩ : ∃ x : Sf.Pend, x = ⟨y1, y2, y3⟩ := ⟨_, rfl⟩
      rw [← hxe] at hit
      obtain ⟨W', o', t', hX, gY', kY⟩ := gY.grow 48 x.cells (by rw [List.length_map]; omega) (by decide)
      have gX' := kY _ _ _ _ (by decide) gX
      have em : ps.map Sf.Pend.cells ++ [x.cells] = (ps ++ [x]).map Sf.Pend.cells := by simp
      rw [em] at gY'
      simp only [em] at hX
      have hil : (ps ++ [x]).length = j + 1 := by simp [hdl]
      obtain ⟨ps2, hi2⟩ : ∃ l, ps ++ [x] = l := ⟨_, rfl⟩
      rw [hi2] at hX gY' hit hil
      clear em hi2
      subst hxe
      simp only [Sf.Pend.cells] at hX
      (refine AX.run0 (And.intro t0 (And.intro t2 (And.intro t3 (And.intro ta (And.intro tb hlt))))) ?_)
      refine use (str q.r q1 y1 _ g1 rfl hpl) ?_
      (refine AX.run0 (And.intro t0 (And.intro t2 (And.intro t3 (And.intro ta tb)))) ?_)
      refine use (str q1 q2 y2 _ g2 rfl (by omega)) ?_
      (refine AX.run0 (And.intro t0 (And.intro t2 (And.intro t3 (And.intro ta tb)))) ?_)
      refine use (str q2 q3 y3 _ g3 rfl (by omega)) ?_
      (refine AX.run0 (And.intro t0 (And.intro t2 (And.intro t3 (And.intro ta (And.intro tb (And.intro hX ei)))))) ?_)
      exact ⟨c2 - (j + 1), by omega, j + 1, ⟨q3, q.bad⟩, ps2, W', o', t', rfl, by omega, rfl, hit, hil, (by dsimp only; omega), gX', gY', by (exact AX.ev0 t0), by (exact AX.ev0 t2), by (exact AX.ev0 t3), by (exact AX.ev0 ta), by (exact AX.ev0 ei)⟩
    have hlt : ¬ ((j : Int) < (c2 : Int)) := by omega
    rw [show c2 - j = 0 by omega] at hit
    unfold Sf.pendsS at hit
    subst hit
    obtain ⟨⟨rc3, c3⟩, hc3⟩ : ∃ x, Wire.cntR q.r 1 = x := ⟨_, rfl⟩
    have lc3 := Wire.cntR_rest q.r 1
    have lk3 := Wire.cntR_cnt q.r
    rw [hc3] at lc3 lk3
    dsimp only at lc3 lk3
    obtain ⟨res3, hres3⟩ : ∃ x, Sf.outsS c3 ⟨rc3, q.bad⟩ [] = x := ⟨_, rfl⟩
    have fin3 : ∀ {r3 : Sf.Rs × List Sf.Outp × Bool}, r3 = res3 → Sf.stateS ver s = (r3.1, ⟨x1, x2, is, ps, r3.2.1⟩) := fun e => by rw [e]; exact fin2 q ps rc3 c3 rfl hc3 hres3
    (refine AX.run0 (And.intro t0 (And.intro t2 (And.intro t3 (And.intro ta (And.intro tb hlt))))) ?_)
    refine use (cnt q.r rc3 c3 _ hc3 rfl (by omega)) ?_
    (refine AX.run0 (And.intro t0 (And.intro t2 t3)) ?_)
    refine awp_loop (fun mm ts h => ∃ (j : Nat) (p : Sf.Rs) (os : List Sf.Outp) (W3 : Nat) (o3 : Own) (l : List Blk) (t : List (TypeId × Nat × Nat)), mm = c3 - j ∧ j ≤ c3 ∧ h = ⟨.cells 108 [.ptr 1 0, .int .i64 ver, .bool p.bad] :: rdr p.r :: .cells 26 [.str [], .int .i64 0, .sl 0 .nil [], .sl 0 .nil [], .sl 0 .nil []] :: .cells 26 [.str x1, .int .i64 x2, (.sl W o (is.map Sf.Inst.cells)), (.sl W2 o2 (ps.map Sf.Pend.cells)), (.sl W3 o3 (os.map Sf.Outp.cells))] :: l, t⟩ ∧ Sf.outsS (c3 - j) p os = res3 ∧ os.length = j ∧ p.r.rest.length ≤ 100000000 ∧ Gs 46 13 0 ⟨[], t⟩ (is.map Sf.Inst.cells) (.sl W o (is.map Sf.Inst.cells)) ∧ Gs 121 3 0 ⟨[], t⟩ (ps.map Sf.Pend.cells) (.sl W2 o2 (ps.map Sf.Pend.cells)) ∧ Gs 123 7 0 ⟨[], t⟩ (os.map Sf.Outp.cells) (.sl W3 o3 (os.map Sf.Outp.cells)) ∧ ts 0 = .ptr 0 0 ∧ ts 2 = .ptr 2 0 ∧ ts 3 = .ptr 3 0 ∧ ts 72 = .int .i64 (c3 : Nat) ∧ ts 73 = .int .i64 (j : Nat)) c3 ?_ ?_
    · exact ⟨0, ⟨rc3, q.bad⟩, [], 0, .nil, [], t, by omega, by omega, rfl, hres3, rfl, (by dsimp only; omega), gX, gY, .inl ⟨rfl, rfl⟩, by (exact AX.ev0 t0), by (exact AX.ev0 t2), by (exact AX.ev0 t3), by (exact AX.ev0 True.intro), by (exact AX.inv0 True.intro)⟩
    rintro mm ts h ⟨j, p, os, W3, o3, l, t, rfl, hjc, rfl, hit, hdl, hpl, gX, gY, gZ, t0, t2, t3, ta, tb⟩
    by_cases hj : j < c3
    · have cf := a_rfails (ver := ver) p (.cells 26 [.str [], .int .i64 0, .sl 0 .nil [], .sl 0 .nil [], .sl 0 .nil []] :: .cells 26 [.str x1, .int .i64 x2, (.sl W o (is.map Sf.Inst.cells)), (.sl W2 o2 (ps.map Sf.Pend.cells)), (.sl W3 o3 (os.map Sf.Outp.cells))] :: l) t
      unfold RB at cf
      have hlt : (j : Int) < (c3 : Int) := by omega
      have ei : IntKind.i64.wrap ((j : Int) + 1) = ((j + 1 : Nat) : Int) := by rw [wrap64 (by omega) (by omega)]; omega
      rw [show c3 - j = (c3 - (j + 1)) + 1 by omega] at hit
      unfold Sf.outsS at hit
      (refine AX.run0 (And.intro t0 (And.intro t2 (And.intro t3 (And.intro ta (And.intro tb hlt))))) ?_)
      refine use cf ?_
      rcases bool_or p.fails with e | e
      · rw [e, if_pos rfl] at hit
        rw [e]
        (refine AX.run0 (And.intro t0 (And.intro t2 (And.intro t3 (And.intro ta tb)))) ?_)
        subst hit
        have hfin := fin3 rfl
        exact ⟨.agg [.str x1, .int .i64 x2, .sl 13 .no (is.map Sf.Inst.cells), .sl 3 .no (ps.map Sf.Pend.cells), .sl 7 .no (os.map Sf.Outp.cells)], ⟨le1_refl _, le1_refl _, Gs.le gX, Gs.le gY, Gs.le gZ, trivial⟩, by rw [hfin]; rfl, by rw [hfin]; rfl, by rw [hfin]; rfl⟩
      rw [e, if_neg (by decide)] at hit
      rw [e]
      (refine AX.run0 (And.intro t0 (And.intro t2 (And.intro t3 (And.intro ta tb)))) ?_)
      obtain ⟨⟨q1, y1⟩, g1⟩ : ∃ q, Wire.strR p.r = q := ⟨_, rfl⟩
      have m1 := Wire.strR_rest p.r
      rw [g1] at m1
      dsimp only at m1
      refine use (str p.r q1 y1 _ g1 rfl hpl) ?_
      (refine AX.run0 (And.intro t0 (And.intro t2 (And.intro t3 (And.intro ta tb)))) ?_)
      have cv := a_rvalue (ver := ver) ⟨q1, p.bad⟩ (by dsimp only; omega) (.cells 26 [.str [], .int .i64 0, .sl 0 .nil [], .sl 0 .nil [], .sl 0 .nil []] :: .cells 26 [.str x1, .int .i64 x2, (.sl W o (is.map Sf.Inst.cells)), (.sl W2 o2 (ps.map Sf.Pend.cells)), (.sl W3 o3 (os.map Sf.Outp.cells))] :: (l ++ [.cells 123 [.str y1, .int .i64 0, .int .i64 0, .str [], .sl 0 .nil [], .sl 0 .nil [], .bool false]])) t
      have m2 := Sf.valueS_le ⟨q1, p.bad⟩
      obtain ⟨⟨⟨q2, b2⟩, y2⟩, g2⟩ : ∃ q, Sf.valueS ⟨q1, p.bad⟩ = q := ⟨_, rfl⟩
      rw [g2] at cv m2
      dsimp only at cv m2
      obtain ⟨⟨⟨q3, b3⟩, y3⟩, g3⟩ : ∃ q, Sf.flagS ⟨q2, b2⟩ = q := ⟨_, rfl⟩
      have m3 := Sf.flagS_le ⟨q2, b2⟩
      rw [g3] at m3
      dsimp only at m3
      have ho : Sf.outS p = (⟨q3, b3⟩, ⟨y1, y2, y3⟩) := by unfold Sf.outS Sf.strS; simp only [g1, g2, g3]
      rw [ho] at hit
      dsimp only at hit
      obtain ⟨x, hxe⟩ : ∃ x : Sf.Outp, x = ⟨y1, y2, y3⟩ := ⟨_, rfl⟩
      rw [← hxe] at hit
      obtain ⟨W', o', t', hX, gZ', kZ⟩ := gZ.grow 104 x.cells (by rw [List.length_map]; omega) (by decide)
      have gX' := kZ _ _ _ _ (by decide) gX
      have gY' := kZ _ _ _ _ (by decide) gY
      have em : os.map Sf.Outp.cells ++ [x.cells] = (os ++ [x]).map Sf.Outp.cells := by simp
      rw [em] at gZ'
      simp only [em] at hX
      have hil : (os ++ [x]).length = j + 1 := by simp [hdl]
      obtain ⟨os2, hi2⟩ : ∃ l, os ++ [x] = l := ⟨_, rfl⟩
      rw [hi2] at hX gZ' hit hil
      clear em hi2
      subst hxe
      obtain ⟨k, n, w, vi, vy⟩ := y2
      have hVA : (V.mk k n w vi vy).A = .agg [.int .i64 k, .int .i64 n, .str w, .sl 5 .no (V.cellss vi), .sl 1 .no (strsA vy)] := by simp only [V.A, V.cells]
      rw [hVA] at cv
      unfold RB at cv
      simp only [Sf.Outp.cells] at hX
      refine use cv ?_
      (refine AX.run0 (And.intro t0 (And.intro t2 (And.intro t3 (And.intro ta tb)))) ?_)
      have cg := a_rflag (ver := ver) ⟨q2, b2⟩ (by dsimp only; omega) (.cells 26 [.str [], .int .i64 0, .sl 0 .nil [], .sl 0 .nil [], .sl 0 .nil []] :: .cells 26 [.str x1, .int .i64 x2, (.sl W o (is.map Sf.Inst.cells)), (.sl W2 o2 (ps.map Sf.Pend.cells)), (.sl W3 o3 (os.map Sf.Outp.cells))] :: (l ++ [.cells 123 [.str y1, .int .i64 k, .int .i64 n, .str w, .sl 5 .no (V.cellss vi), .sl 1 .no (strsA vy), .bool false]])) t
      rw [g3] at cg
      dsimp only at cg
      unfold RB at cg
      refine use cg ?_
      (refine AX.run0 (And.intro t0 (And.intro t2 (And.intro t3 (And.intro ta (And.intro tb (And.intro hX ei)))))) ?_)
      exact ⟨c3 - (j + 1), by omega, j + 1, ⟨q3, b3⟩, os2, W', o', l ++ [.cells 123 [.str y1, .int .i64 k, .int .i64 n, .str w, .sl 5 .no (V.cellss vi), .sl 1 .no (strsA vy), .bool y3]], t', rfl, by omega, rfl, hit, hil, (by dsimp only; omega), gX', gY', gZ', by (exact AX.ev0 t0), by (exact AX.ev0 t2), by (exact AX.ev0 t3), by (exact AX.ev0 ta), by (exact AX.ev0 ei)⟩
    have hlt : ¬ ((j : Int) < (c3 : Int)) := by omega
    rw [show c3 - j = 0 by omega] at hit
    unfold Sf.outsS at hit
    subst hit
    (refine AX.run0 (And.intro t0 (And.intro t2 (And.intro t3 (And.intro ta (And.intro tb hlt))))) ?_)
    have hfin := fin3 rfl
    exact ⟨.agg [.str x1, .int .i64 x2, .sl 13 .no (is.map Sf.Inst.cells), .sl 3 .no (ps.map Sf.Pend.cells), .sl 7 .no (os.map Sf.Outp.cells)], ⟨le1_refl _, le1_refl _, Gs.le gX, Gs.le gY, Gs.le gZ, trivial⟩, by rw [hfin]; rfl, by rw [hfin]; rfl, by rw [hfin]; rfl⟩
end AX
end Go.Proofs.YtkhhnkceiibmfaaGreatDoor

namespace Go.Proofs.YtkhhnkceiibmfaaGreatDoor
open Go.RowKit
set_option linter.unusedSimpArgs false
set_option linter.unusedVariables false
set_option maxHeartbeats 4000000
namespace AX
def c_wflag : AX.AFn := ⟨9, .seq (.reg false [⟨some 4, .mv (.c (.int .i64 0)), none, []⟩]) (.seq (.seq (.reg false [⟨some 5, .mv (.t 1), none, []⟩]) (.cond (.t 5) (.reg false [⟨some 4, .mv (.c (.int .i64 1)), none, []⟩]) (.skip))) (.reg false [⟨some 6, .mv (.t 0), none, []⟩, ⟨some 7, .mv (.t 4), none, []⟩, ⟨some 8, .call 173 [.t 6, .t 7], none, []⟩])), []⟩
theorem h_wflag : AX.compFn Tryz.prog 177 = some c_wflag := by kernel_rfl
def c_winst : AX.AFn := ⟨59, .seq (.reg false [⟨some 3, .box 46 (.t 1), none, []⟩]) (.seq (.reg false [⟨some 6, .mv (.t 0), none, []⟩, ⟨some 7, .faddr 0 (.t 3), none, []⟩, ⟨some 8, .load false 1 (.t 7), none, []⟩, ⟨some 9, .call 174 [.t 6, .t 8], none, []⟩]) (.seq (.reg false [⟨some 10, .mv (.t 0), none, []⟩, ⟨some 11, .faddr 1 (.t 3), none, []⟩, ⟨some 12, .load false 1 (.t 11), none, []⟩, ⟨some 13, .call 174 [.t 10, .t 12], none, []⟩]) (.seq (.reg false [⟨some 14, .mv (.t 0), none, []⟩, ⟨some 15, .faddr 2 (.t 3), none, []⟩, ⟨some 16, .load false 1 (.t 15), none, []⟩, ⟨some 17, .call 174 [.t 14, .t 16], none, []⟩]) (.seq (.reg false [⟨some 18, .mv (.t 0), none, []⟩, ⟨some 19, .faddr 3 (.t 3), none, []⟩, ⟨some 20, .load false 1 (.t 19), none, []⟩, ⟨some 21, .call 174 [.t 18, .t 20], none, []⟩]) (.seq (.reg false [⟨some 22, .mv (.t 0), none, []⟩, ⟨some 23, .faddr 4 (.t 3), none, []⟩, ⟨some 24, .load true 5 (.t 23), none, []⟩, ⟨some 25, .call 110 [.t 22, .t 24], none, []⟩]) (.seq (.reg false [⟨some 26, .mv (.t 0), none, []⟩, ⟨some 27, .faddr 9 (.t 3), none, []⟩, ⟨some 28, .load false 1 (.t 27), none, []⟩, ⟨some 29, .call 173 [.t 26, .t 28], none, []⟩]) (.seq (.reg false [⟨some 30, .mv (.t 0), none, []⟩, ⟨some 31, .faddr 10 (.t 3), none, []⟩, ⟨some 32, .load false 1 (.t 31), none, []⟩, ⟨some 33, .call 177 [.t 30, .t 32], none, []⟩]) (.seq (.seq (.reg false [⟨some 34, .mv (.t 0), none, []⟩, ⟨some 35, .nilck (.t 34), none, []⟩, ⟨some 36, .faddr 2 (.t 35), none, []⟩, ⟨some 37, .load false 1 (.t 36), none, []⟩, ⟨some 38, .bin .eql (.t 37) (.c (.int .i64 2)), none, []⟩]) (.cond (.t 38) (.reg false [⟨some 39, .mv (.t 0), none, []⟩, ⟨some 40, .faddr 11 (.t 3), none, []⟩, ⟨some 41, .load false 1 (.t 40), none, []⟩, ⟨some 42, .call 177 [.t 39, .t 41], none, []⟩]) (.skip))) (.seq (.reg false [⟨some 43, .mv (.t 0), none, []⟩, ⟨some 44, .faddr 12 (.t 3), none, []⟩, ⟨some 45, .load false 1 (.t 44), none, []⟩, ⟨some 46, .len false (.t 45), none, []⟩, ⟨some 47, .call 173 [.t 43, .t 46], none, []⟩]) (.seq (.reg false [⟨some 48, .faddr 12 (.t 3), none, []⟩, ⟨some 49, .load false 1 (.t 48), none, []⟩, ⟨some 50, .len false (.t 49), none, []⟩, ⟨some 51, .mv (.c (.int .i64 0)), none, []⟩]) (.block 0 (.loop (.seq (.reg false [⟨some 52, .bin .lss (.t 51) (.t 50), none, []⟩]) (.seq (.cond (.t 52) (.skip) (.exit 0)) (.seq (.block 1 (.seq (.reg false [⟨some 53, .iaddr 1 (.t 49) (.t 51), none, []⟩, ⟨some 54, .load false 1 (.t 53), none, []⟩, ⟨some 5, .mv (.t 54), none, []⟩]) (.reg false [⟨some 55, .mv (.t 0), none, []⟩, ⟨some 56, .mv (.t 5), none, []⟩, ⟨some 57, .call 174 [.t 55, .t 56], none, []⟩]))) (.reg false [⟨some 58, .bin .add (.t 51) (.c (.int .i64 1)), none, []⟩, ⟨some 51, .mv (.t 58), none, []⟩])))))))))))))))), []⟩
theorem h_winst : AX.compFn Tryz.prog 176 = some c_winst := by kernel_rfl

theorem wtr_loc (ver : Int) (l : List UInt8) : (wtr ver l).loc 0 := by
  intro o x h
  simp only [wtr] at h
  split at h
  · injection h with h; subst h; rfl
  · cases h
theorem liftW {f : FuncId} {args : List A} {ver : Int} {l l' : List UInt8} (hl' : l' ≠ []) (hc : ACall Tryz.prog GT f (.ptr 0 0 :: args) ⟨[wtr ver l], []⟩ fun u h' => u = .tup [] ∧ WP 0 ver l' ⟨[wtr ver l], []⟩ h') (ha : A.locL 0 args = true) {h : Hp} {i : Nat} (hb : h.b[i]? = some (wtr ver l)) :
    ACall Tryz.prog GT f (.ptr i 0 :: args) h fun u h' => u = .tup [] ∧ h' = ⟨h.b.set i (wtr ver l'), h.t⟩ := by
  have h1 : ACall Tryz.prog GT f (.ptr 0 0 :: args) ⟨[wtr ver l], []⟩ fun u h' => ∃ b', h'.b[0]? = some b' ∧ u = .tup [] ∧ b' = wtr ver l' := hc.mono fun u h' ⟨e, hp⟩ => ⟨wtr ver l', WP.bx hp hl', e, rfl⟩
  refine (ACall.lift1 h1 ha (wtr_loc ver l) ?_ hb).mono ?_
  · rintro u b' ⟨rfl, rfl⟩
    exact ⟨rfl, wtr_loc ver l'⟩
  · rintro u h' ⟨b', ⟨rfl, rfl⟩, rfl⟩
    exact ⟨rfl, rfl⟩
theorem num_ne (n : Int) : Wire.num n ≠ [] := by
  have := (Wire.encF_len 9 (Wire.zig n)).1
  intro e
  have h : (Wire.num n).length = 0 := by rw [e]; rfl
  unfold Wire.num at h
  omega
theorem app_ne {a b : List UInt8} (h : b ≠ []) : a ++ b ≠ [] := by simp [h]
theorem strE_ne (s : List UInt8) : Wire.strE s ≠ [] := by
  unfold Wire.strE
  intro e
  exact num_ne _ (List.append_eq_nil_iff.1 e).1
theorem wn {h : Hp} {i : Nat} {ver : Int} {l : List UInt8} (hb : h.b[i]? = some (wtr ver l)) (n : Int) (hlen : l.length + 10 ≤ 1000000000) (h0 : -9223372036854775808 ≤ n) (h1 : n ≤ 9223372036854775807) :
    ACall Tryz.prog GT 173 [.ptr i 0, .int .i64 n] h fun u h' => u = .tup [] ∧ h' = ⟨h.b.set i (wtr ver (l ++ Wire.num n)), h.t⟩ :=
  liftW (app_ne (num_ne n)) (a_wnum (h := ⟨[wtr ver l], []⟩) (.inl rfl) n hlen h0 h1) rfl hb
theorem wt {h : Hp} {i : Nat} {ver : Int} {l : List UInt8} (hb : h.b[i]? = some (wtr ver l)) (s : List UInt8) (hlen : l.length + s.length + 10 ≤ 1000000000) :
    ACall Tryz.prog GT 174 [.ptr i 0, .str s] h fun u h' => u = .tup [] ∧ h' = ⟨h.b.set i (wtr ver (l ++ Wire.strE s)), h.t⟩ :=
  liftW (app_ne (strE_ne s)) (a_wtext (h := ⟨[wtr ver l], []⟩) (.inl rfl) s hlen) rfl hb
theorem wv {h : Hp} {i : Nat} {ver : Int} {l : List UInt8} (hb : h.b[i]? = some (wtr ver l)) (v : V) (hz : ∃ lv b, (Val.chk v lv b).1 = 0) (hlen : l.length + (Val.enc v).length + 10 ≤ 1000000000) (hv : v.lens) :
    ACall Tryz.prog GT 110 [.ptr i 0, v.A] h fun u h' => u = .tup [] ∧ h' = ⟨h.b.set i (wtr ver (l ++ Val.enc v)), h.t⟩ :=
  liftW (app_ne (enc_ne v)) (t_value v 0 ver l ⟨[wtr ver l], []⟩ (.inl rfl) hz hlen hv) (by obtain ⟨k, n, s, is, ks⟩ := v; rfl) hb
theorem wf {h : Hp} {i : Nat} {ver : Int} {l : List UInt8} (hb : h.b[i]? = some (wtr ver l)) (b : Bool) (hlen : l.length + 10 ≤ 1000000000) :
    ACall Tryz.prog GT 177 [.ptr i 0, .bool b] h fun u h' => u = .tup [] ∧ h' = ⟨h.b.set i (wtr ver (l ++ Sf.flagE b)), h.t⟩ := by
  refine acall_of mixedT h_wflag (by simp [c_wflag]) ?_
  dsimp only [c_wflag]
  cases b
  · (refine AX.run0 True.intro ?_)
    refine use (wn hb _ hlen (by decide) (by decide)) ?_
    (refine AX.run0 True.intro ?_)
    exact ⟨_, le_refl _, rfl, rfl⟩
  · (refine AX.run0 True.intro ?_)
    refine use (wn hb _ hlen (by decide) (by decide)) ?_
    (refine AX.run0 True.intro ?_)
    exact ⟨_, le_refl _, rfl, rfl⟩
/-- A record that can be written: its value checked, its numbers in range. -/
structure Sf.InstOk (x : Sf.Inst) : Prop where
  z : ∃ lv b, (Val.chk x.attrs lv b).1 = 0
  lens : x.attrs.lens
  v0 : -9223372036854775808 ≤ x.ver
  v1 : x.ver ≤ 9223372036854775807
theorem strE_le (s : List UInt8) : s.length ≤ (Wire.strE s).length := by unfold Wire.strE; rw [List.length_append]; omega
theorem words_snoc (ds : List (List UInt8)) (j : Nat) (hj : j < ds.length) : Sf.wordsE (ds.take (j + 1)) = Sf.wordsE (ds.take j) ++ Wire.strE ds[j] := by
  unfold Sf.wordsE
  rw [List.take_succ_eq_append_getElem hj, List.flatMap_append]; simp
theorem words_take_le (ds : List (List UInt8)) (j : Nat) : (Sf.wordsE (ds.take j)).length ≤ (Sf.wordsE ds).length := by
  have : Sf.wordsE ds = Sf.wordsE (ds.take j) ++ Sf.wordsE (ds.drop j) := by unfold Sf.wordsE; rw [← List.flatMap_append, List.take_append_drop]
  rw [this, List.length_append]; omega
theorem w_inst {ver : Int} (hver : ver = 1 ∨ ver = 2) (x : Sf.Inst) (hx : Sf.InstOk x) (l : List UInt8) (hlen : l.length + (Sf.instE ver x).length + 20 ≤ 1000000000) {h : Hp} {i : Nat} (hb : h.b[i]? = some (wtr ver l)) :
    ACall Tryz.prog GT 176 [.ptr i 0, .agg x.cells] h fun u h' => u = .tup [] ∧ h' = ⟨h.b.set i (wtr ver (l ++ Sf.instE ver x)), h.t⟩ := by
  have key : ACall Tryz.prog GT 176 [.ptr 0 0, .agg x.cells] ⟨[wtr ver l], []⟩ fun u h' => ∃ b', h'.b[0]? = some b' ∧ u = .tup [] ∧ b' = wtr ver (l ++ Sf.instE ver x) := by
    have hz := hx.z
    have hl := hx.lens
    have v0 := hx.v0
    have v1 := hx.v1
    obtain ⟨a, d, id, ty, ⟨k, n, s, is, ks⟩, v, tn, fi, ds⟩ := x
    have hE : Sf.instE ver ⟨a, d, id, ty, .mk k n s is ks, v, tn, fi, ds⟩ = Wire.strE a ++ Wire.strE d ++ Wire.strE id ++ Wire.strE ty ++ Val.enc (.mk k n s is ks) ++ Wire.num v ++ Sf.flagE tn ++ (if ver = 2 then Sf.flagE fi else []) ++ Wire.num ds.length ++ Sf.wordsE ds := rfl
    rw [hE] at hlen ⊢
    have la := strE_le a
    have lb := strE_le d
    have lc := strE_le id
    have ld := strE_le ty
    have hVA : (V.mk k n s is ks).A = .agg [.int .i64 k, .int .i64 n, .str s, .sl 5 .no (V.cellss is), .sl 1 .no (strsA ks)] := by simp only [V.A, V.cells]
    have cv := fun (m : List UInt8) (h : Hp) (hb : h.b[0]? = some (wtr ver m)) (hm : m.length + (Val.enc (.mk k n s is ks)).length + 10 ≤ 1000000000) => wv hb (.mk k n s is ks) hz hm hl
    rw [hVA] at cv
    simp only [List.length_append] at hlen
    obtain ⟨F, hF⟩ : ∃ F, (if ver = 2 then Sf.flagE fi else []) = F := ⟨_, rfl⟩
    rw [hF] at hlen ⊢
    have hdl : ds.length ≤ 1000000000 := by
      have : ∀ l : List (List UInt8), l.length ≤ (Sf.wordsE l).length := by
        intro l
        induction l with
        | nil => simp
        | cons x l ih =>
          have h1 : Sf.wordsE (x :: l) = Wire.strE x ++ Sf.wordsE l := by simp [Sf.wordsE]
          have h2 : (Wire.strE x).length ≠ 0 := fun e => strE_ne x (List.length_eq_zero_iff.1 e)
          rw [h1, List.length_append, List.length_cons]; omega
      have := this ds; omega
    refine acall_of mixedT h_winst (by simp [c_winst]) ?_
    dsimp only [c_winst, Sf.Inst.cells]
    (refine AX.run0 True.intro ?_)
    refine use (wt rfl a (by omega)) ?_
    (refine AX.run0 True.intro ?_)
    refine use (wt rfl d (by simp only [List.length_append]; omega)) ?_
    (refine AX.run0 True.intro ?_)
    refine use (wt rfl id (by simp only [List.length_append]; omega)) ?_
    (refine AX.run0 True.intro ?_)
    refine use (wt rfl ty (by simp only [List.length_append]; omega)) ?_
    (refine AX.run0 True.intro ?_)
    refine use (cv _ _ rfl (by simp only [List.length_append]; omega)) ?_
    (refine AX.run0 True.intro ?_)
    refine use (wn rfl v (by simp only [List.length_append]; omega) v0 v1) ?_
    (refine AX.run0 True.intro ?_)
    refine use (wf rfl tn (by simp only [List.length_append]; omega)) ?_
    have hv12 : ∀ {G : Prop}, ((ver == 2) = false → F = [] → G) → ((ver == 2) = true → F = Sf.flagE fi → G) → G := fun p q => by
      rcases hver with rfl | rfl
      · rw [if_neg (by decide)] at hF; exact p rfl hF.symm
      · rw [if_pos rfl] at hF; exact q rfl hF.symm
    refine hv12 (fun e2 eF => ?_) (fun e2 eF => ?_)
    all_goals subst eF
    · (refine AX.runW (And.intro e2 @strsA_length) ?_)
      refine use (wn rfl _ (by simp only [List.length_append]; omega) (by omega) (by omega)) ?_
      (refine AX.run0 @strsA_length ?_)
      refine awp_loop (fun mm ts h => ∃ j : Nat, mm = ds.length - j ∧ j ≤ ds.length ∧ h = ⟨[wtr ver (l ++ Wire.strE a ++ Wire.strE d ++ Wire.strE id ++ Wire.strE ty ++ Val.enc (.mk k n s is ks) ++ Wire.num v ++ Sf.flagE tn ++ Wire.num ds.length ++ Sf.wordsE (ds.take j)), .cells 46 [.str a, .str d, .str id, .str ty, .int .i64 k, .int .i64 n, .str s, .sl 5 .no (V.cellss is), .sl 1 .no (strsA ks), .int .i64 v, .bool tn, .bool fi, .sl 1 .no (strsA ds)]], []⟩ ∧ ts 0 = .ptr 0 0 ∧ ts 49 = .sl 1 .no (strsA ds) ∧ ts 50 = .int .i64 (ds.length : Nat) ∧ ts 51 = .int .i64 (j : Nat)) ds.length ?_ ?_
      · exact ⟨0, by omega, by omega, by simp only [Sf.wordsE, List.take_zero, List.flatMap_nil, List.append_nil], by (exact AX.ev0 True.intro), by (exact AX.ev0 True.intro), by (exact AX.ev0 @strsA_length), by (exact AX.inv0 True.intro)⟩
      · rintro mm ts h ⟨j, rfl, hjc, rfl, t0, t49, t50, t51⟩
        by_cases hj : j < ds.length
        · have hlt : (j : Int) < (ds.length : Int) := by omega
          have ei : IntKind.i64.wrap ((j : Int) + 1) = ((j + 1 : Nat) : Int) := by rw [wrap64 (by omega) (by omega)]; omega
          have hg := strsA_get ds j hj
          have hlt' : (j : Int) < ((strsA ds).length : Int) := by rw [strsA_length]; exact hlt
          have hj0 : (0 : Int) ≤ (j : Int) := by omega
          have ht := words_take_le ds (j + 1)
          rw [words_snoc ds j hj, List.length_append] at ht
          have hsl := strE_le ds[j]
          (refine AX.run0 (And.intro t0 (And.intro t49 (And.intro t50 (And.intro t51 (And.intro hlt (And.intro hg (And.intro hlt' hj0))))))) ?_)
          refine use (wt rfl ds[j] (by simp only [List.length_append]; omega)) ?_
          (refine AX.run0 (And.intro t0 (And.intro t49 (And.intro t50 (And.intro t51 ei)))) ?_)
          exact ⟨ds.length - (j + 1), by omega, j + 1, rfl, by omega, by rw [words_snoc ds j hj]; simp only [List.append_assoc], by (exact AX.ev0 t0), by (exact AX.ev0 t49), by (exact AX.ev0 t50), by (exact AX.ev0 ei)⟩
        · have hlt : ¬ ((j : Int) < (ds.length : Int)) := by omega
          have hjl : j = ds.length := by omega
          subst hjl
          (refine AX.run0 (And.intro t0 (And.intro t49 (And.intro t50 (And.intro t51 hlt)))) ?_)
          exact ⟨_, le_refl _, _, rfl, rfl, by simp only [List.take_length, List.append_assoc, List.nil_append]⟩
    · (refine AX.runW e2 ?_)
      refine use (wf rfl fi (by simp only [List.length_append]; omega)) ?_
      (refine AX.run0 @strsA_length ?_)
      refine use (wn rfl _ (by simp only [List.length_append]; omega) (by omega) (by omega)) ?_
      (refine AX.run0 @strsA_length ?_)
      refine awp_loop (fun mm ts h => ∃ j : Nat, mm = ds.length - j ∧ j ≤ ds.length ∧ h = ⟨[wtr ver (l ++ Wire.strE a ++ Wire.strE d ++ Wire.strE id ++ Wire.strE ty ++ Val.enc (.mk k n s is ks) ++ Wire.num v ++ Sf.flagE tn ++ Sf.flagE fi ++ Wire.num ds.length ++ Sf.wordsE (ds.take j)), .cells 46 [.str a, .str d, .str id, .str ty, .int .i64 k, .int .i64 n, .str s, .sl 5 .no (V.cellss is), .sl 1 .no (strsA ks), .int .i64 v, .bool tn, .bool fi, .sl 1 .no (strsA ds)]], []⟩ ∧ ts 0 = .ptr 0 0 ∧ ts 49 = .sl 1 .no (strsA ds) ∧ ts 50 = .int .i64 (ds.length : Nat) ∧ ts 51 = .int .i64 (j : Nat)) ds.length ?_ ?_
      · exact ⟨0, by omega, by omega, by simp only [Sf.wordsE, List.take_zero, List.flatMap_nil, List.append_nil], by (exact AX.ev0 True.intro), by (exact AX.ev0 True.intro), by (exact AX.ev0 @strsA_length), by (exact AX.inv0 True.intro)⟩
      · rintro mm ts h ⟨j, rfl, hjc, rfl, t0, t49, t50, t51⟩
        by_cases hj : j < ds.length
        · have hlt : (j : Int) < (ds.length : Int) := by omega
          have ei : IntKind.i64.wrap ((j : Int) + 1) = ((j + 1 : Nat) : Int) := by rw [wrap64 (by omega) (by omega)]; omega
          have hg := strsA_get ds j hj
          have hlt' : (j : Int) < ((strsA ds).length : Int) := by rw [strsA_length]; exact hlt
          have hj0 : (0 : Int) ≤ (j : Int) := by omega
          have ht := words_take_le ds (j + 1)
          rw [words_snoc ds j hj, List.length_append] at ht
          have hsl := strE_le ds[j]
          (refine AX.run0 (And.intro t0 (And.intro t49 (And.intro t50 (And.intro t51 (And.intro hlt (And.intro hg (And.intro hlt' hj0))))))) ?_)
          refine use (wt rfl ds[j] (by simp only [List.length_append]; omega)) ?_
          (refine AX.run0 (And.intro t0 (And.intro t49 (And.intro t50 (And.intro t51 ei)))) ?_)
          exact ⟨ds.length - (j + 1), by omega, j + 1, rfl, by omega, by rw [words_snoc ds j hj]; simp only [List.append_assoc], by (exact AX.ev0 t0), by (exact AX.ev0 t49), by (exact AX.ev0 t50), by (exact AX.ev0 ei)⟩
        · have hlt : ¬ ((j : Int) < (ds.length : Int)) := by omega
          have hjl : j = ds.length := by omega
          subst hjl
          (refine AX.run0 (And.intro t0 (And.intro t49 (And.intro t50 (And.intro t51 hlt)))) ?_)
          exact ⟨_, le_refl _, _, rfl, rfl, by simp only [List.take_length, List.append_assoc, List.nil_append]⟩
  refine (ACall.lift1 key (by obtain ⟨a, d, id, ty, ⟨k, n, s, is, ks⟩, v, tn, fi, ds⟩ := x; rfl) (wtr_loc ver l) ?_ hb).mono ?_
  · rintro u b' ⟨rfl, rfl⟩
    exact ⟨rfl, wtr_loc _ _⟩
  · rintro u h' ⟨b', ⟨rfl, rfl⟩, rfl⟩
    exact ⟨rfl, rfl⟩
end AX
end Go.Proofs.YtkhhnkceiibmfaaGreatDoor

namespace Go.Proofs.YtkhhnkceiibmfaaGreatDoor
open Go.RowKit
set_option linter.unusedSimpArgs false
set_option linter.unusedVariables false
set_option maxHeartbeats 4000000
namespace AX
theorem fm_snoc {α : Type} (f : α → List UInt8) (l : List α) (j : Nat) (hj : j < l.length) : (l.take (j + 1)).flatMap f = (l.take j).flatMap f ++ f l[j] := by
  rw [List.take_succ_eq_append_getElem hj, List.flatMap_append]; simp
theorem fm_le {α : Type} (f : α → List UInt8) (l : List α) (j : Nat) : ((l.take j).flatMap f).length ≤ (l.flatMap f).length := by
  have : l.flatMap f = (l.take j).flatMap f ++ (l.drop j).flatMap f := by rw [← List.flatMap_append, List.take_append_drop]
  rw [this, List.length_append]; omega
theorem map_getD {α : Type} (f : α → List A) (l : List α) (j : Nat) (hj : j < l.length) : (l.map f).getD j [] = f l[j] := by simp [List.getD, hj]
/-- A state that can be written. -/
structure Sf.StOk (s : Sf.St) : Prop where
  insts : ∀ x ∈ s.insts, Sf.InstOk x
  outs : ∀ x ∈ s.outs, (∃ lv b, (Val.chk x.value lv b).1 = 0) ∧ x.value.lens
  ser0 : -9223372036854775808 ≤ s.ser
  ser1 : s.ser ≤ 9223372036854775807
  li : s.insts.length ≤ 1000000000
  lp : s.pends.length ≤ 1000000000
  lo : s.outs.length ≤ 1000000000
theorem w_state {ver : Int} (hver : ver = 1 ∨ ver = 2) (st : Sf.St) (ok : Sf.StOk st) (hlen : (Sf.stE ver st).length + 20 ≤ 1000000000) :
    ACall Tryz.prog GT 112 [.ptr 0 0, st.A] ⟨[.cells 161 [.nilp, .sl 0 .nil [], .int .i64 ver]], []⟩ fun u h' => ∃ b', h'.b[0]? = some b' ∧ u = .tup [] ∧ b' = wtr ver (Sf.stE ver st) := by
  obtain ⟨lin, ser, ins, ps, os⟩ := st
  have s0 : -9223372036854775808 ≤ ser := ok.ser0
  have s1 : ser ≤ 9223372036854775807 := ok.ser1
  have li : ins.length ≤ 1000000000 := ok.li
  have lp : ps.length ≤ 1000000000 := ok.lp
  have lo : os.length ≤ 1000000000 := ok.lo
  have hml : magic.length = 4 := rfl
  have lm1 : (ins.map Sf.Inst.cells).length = ins.length := List.length_map _
  have lm2 : (ps.map Sf.Pend.cells).length = ps.length := List.length_map _
  have lm3 : (os.map Sf.Outp.cells).length = os.length := List.length_map _
  obtain ⟨F, hF⟩ : ∃ F, (if ver = 2 then Wire.num ps.length ++ ps.flatMap Sf.pendE else []) = F := ⟨_, rfl⟩
  have hE : Sf.stE ver ⟨lin, ser, ins, ps, os⟩ = magic ++ Wire.num ver ++ Wire.strE lin ++ Wire.num ser ++ Wire.num ins.length ++ ins.flatMap (Sf.instE ver) ++ F ++ Wire.num os.length ++ os.flatMap Sf.outE := by rw [← hF]; rfl
  rw [hE] at hlen
  simp only [List.length_append, hml] at hlen
  have k0 := strE_le lin
  have hv12 : ∀ {G : Prop}, ((ver == 2) = false → F = [] → G) → ((ver == 2) = true → F = Wire.num ps.length ++ ps.flatMap Sf.pendE → G) → G := fun p q => by
    rcases hver with rfl | rfl
    · rw [if_neg (by decide)] at hF; exact p rfl hF.symm
    · rw [if_pos rfl] at hF; exact q rfl hF.symm
  have hv1 : 1 ≤ ver ∧ ver ≤ 2 := by omega
  refine acall_of mixedT h_wstate (by simp [c_wstate]) ?_
  dsimp only [c_wstate, Sf.St.A]
  (refine AX.run0 True.intro ?_)
  refine use (a_write (.inr ⟨rfl, rfl⟩) magic (by simp only [List.length_nil, hml]; decide)) ?_
  (refine AX.runW True.intro ?_)
  refine use (wn (i := 0) (ver := ver) (l := magic) rfl ver (by simp only [List.length_append, hml]; omega) (by omega) (by omega)) ?_
  (refine AX.run0 True.intro ?_)
  refine use (wt rfl lin (by simp only [List.length_append, hml]; omega)) ?_
  (refine AX.run0 True.intro ?_)
  refine use (wn rfl ser (by simp only [List.length_append, hml]; omega) s0 s1) ?_
  (refine AX.run0 (And.intro lm1 (And.intro lm2 lm3)) ?_)
  refine use (wn rfl _ (by simp only [List.length_append, hml]; omega) (by omega) (by omega)) ?_
  (refine AX.run0 (And.intro lm1 (And.intro lm2 lm3)) ?_)
  refine awp_loop (fun mm ts h => ∃ (j : Nat) (l : List Blk), mm = ins.length - j ∧ j ≤ ins.length ∧ h = ⟨wtr ver (magic ++ Wire.num ver ++ Wire.strE lin ++ Wire.num ser ++ Wire.num ins.length ++ (ins.take j).flatMap (Sf.instE ver)) :: .cells 26 [.str lin, .int .i64 ser, .sl 13 .no (ins.map Sf.Inst.cells), .sl 3 .no (ps.map Sf.Pend.cells), .sl 7 .no (os.map Sf.Outp.cells)] :: l, []⟩ ∧ ts 0 = .ptr 0 0 ∧ ts 3 = .ptr 1 0 ∧ ts 34 = .sl 13 .no (ins.map Sf.Inst.cells) ∧ ts 35 = .int .i64 (ins.length : Nat) ∧ ts 36 = .int .i64 (j : Nat)) ins.length ?_ ?_
  · exact ⟨0, [], by omega, by omega, by simp only [List.take_zero, List.flatMap_nil, List.append_nil], by (exact AX.ev0 True.intro), by (exact AX.ev0 True.intro), by (exact AX.ev0 True.intro), by (exact AX.ev0 (And.intro lm1 (And.intro lm2 lm3))), by (exact AX.inv0 True.intro)⟩
  · rintro mm ts h ⟨j, l, rfl, hjc, rfl, t0, t3, ta, tb, tc⟩
    by_cases hj : j < ins.length
    · have hlt : (j : Int) < (ins.length : Int) := by omega
      have hlt' : (j : Int) < ((ins.map Sf.Inst.cells).length : Int) := by rw [List.length_map]; exact hlt
      have hj0 : (0 : Int) ≤ (j : Int) := by omega
      have ei : IntKind.i64.wrap ((j : Int) + 1) = ((j + 1 : Nat) : Int) := by rw [wrap64 (by omega) (by omega)]; omega
      have hs := fm_snoc (Sf.instE ver) ins j hj
      have ht := fm_le (Sf.instE ver) ins (j + 1)
      have hg := map_getD Sf.Inst.cells ins j hj
      have hm := List.getElem_mem hj
      have hok := ok.insts _ hm
      obtain ⟨x, hx⟩ : ∃ x, ins[j] = x := ⟨_, rfl⟩
      rw [hx] at hs hg hok
      rw [hs, List.length_append] at ht
      have cw := fun (m : List UInt8) (h : Hp) (hb : h.b[0]? = some (wtr ver m)) (hm : m.length + (Sf.instE ver x).length + 20 ≤ 1000000000) => w_inst hver x hok m hm hb
      obtain ⟨a, d, id, ty, ⟨k, n, s, is, ks⟩, v, tn, fi, ds⟩ := x
      simp only [Sf.Inst.cells] at hg cw
      (refine AX.run0 (And.intro t0 (And.intro t3 (And.intro ta (And.intro tb (And.intro tc (And.intro hlt (And.intro hg (And.intro hlt' hj0)))))))) ?_)
      refine use (cw _ _ rfl (by simp only [List.length_append, hml]; omega)) ?_
      (refine AX.run0 (And.intro t0 (And.intro t3 (And.intro ta (And.intro tb (And.intro tc ei))))) ?_)
      exact ⟨ins.length - (j + 1), by omega, j + 1, l ++ [.cells 46 [.str a, .str d, .str id, .str ty, .int .i64 k, .int .i64 n, .str s, .sl 5 .no (V.cellss is), .sl 1 .no (strsA ks), .int .i64 v, .bool tn, .bool fi, .sl 1 .no (strsA ds)]], rfl, by omega, by rw [hs]; simp only [List.append_assoc], by (exact AX.ev0 t0), by (exact AX.ev0 t3), by (exact AX.ev0 ta), by (exact AX.ev0 tb), by (exact AX.ev0 ei)⟩
    · have hlt : ¬ ((j : Int) < (ins.length : Int)) := by omega
      have hjl : j = ins.length := by omega
      subst hjl
      rw [List.take_length]
      refine hv12 (fun e2 eF => ?_) (fun e2 eF => ?_)
      all_goals subst eF
      all_goals first | (simp only [List.length_append] at hlen) | skip
      · (refine AX.runW (And.intro t0 (And.intro t3 (And.intro ta (And.intro tb (And.intro tc (And.intro hlt (And.intro e2 (And.intro lm1 (And.intro lm2 lm3))))))))) ?_)
        refine use (wn (i := 0) (ver := ver) (l := magic ++ Wire.num ver ++ Wire.strE lin ++ Wire.num ser ++ Wire.num ins.length ++ ins.flatMap (Sf.instE ver)) rfl _ (by simp only [List.length_append, hml]; omega) (by omega) (by omega)) ?_
        (refine AX.run0 (And.intro t0 (And.intro t3 (And.intro lm1 (And.intro lm2 lm3)))) ?_)
        refine awp_loop (fun mm ts h => ∃ (j : Nat) (l : List Blk), mm = os.length - j ∧ j ≤ os.length ∧ h = ⟨wtr ver (magic ++ Wire.num ver ++ Wire.strE lin ++ Wire.num ser ++ Wire.num ins.length ++ ins.flatMap (Sf.instE ver) ++ Wire.num os.length ++ (os.take j).flatMap Sf.outE) :: .cells 26 [.str lin, .int .i64 ser, .sl 13 .no (ins.map Sf.Inst.cells), .sl 3 .no (ps.map Sf.Pend.cells), .sl 7 .no (os.map Sf.Outp.cells)] :: l, []⟩ ∧ ts 0 = .ptr 0 0 ∧ ts 3 = .ptr 1 0 ∧ ts 80 = .sl 7 .no (os.map Sf.Outp.cells) ∧ ts 81 = .int .i64 (os.length : Nat) ∧ ts 82 = .int .i64 (j : Nat)) os.length ?_ ?_
        · exact ⟨0, l, by omega, by omega, by simp only [List.take_zero, List.flatMap_nil, List.append_nil], by (exact AX.ev0 t0), by (exact AX.ev0 t3), by (exact AX.ev0 (And.intro t0 t3)), by (exact AX.ev0 (And.intro t0 (And.intro t3 (And.intro lm1 (And.intro lm2 lm3))))), by (exact AX.inv0 (And.intro t0 t3))⟩
        · rintro mm ts h ⟨j, l, rfl, hjc, rfl, t0, t3, ta, tb, tc⟩
          by_cases hj : j < os.length
          · have hlt : (j : Int) < (os.length : Int) := by omega
            have hlt' : (j : Int) < ((os.map Sf.Outp.cells).length : Int) := by rw [List.length_map]; exact hlt
            have hj0 : (0 : Int) ≤ (j : Int) := by omega
            have ei : IntKind.i64.wrap ((j : Int) + 1) = ((j + 1 : Nat) : Int) := by rw [wrap64 (by omega) (by omega)]; omega
            have hs := fm_snoc Sf.outE os j hj
            have ht := fm_le Sf.outE os (j + 1)
            have hg := map_getD Sf.Outp.cells os j hj
            have hm := List.getElem_mem hj
            have hok := ok.outs _ hm
            obtain ⟨x, hx⟩ : ∃ x, os[j] = x := ⟨_, rfl⟩
            rw [hx] at hs hg hok
            rw [hs, List.length_append] at ht
            obtain ⟨m, ⟨k, n, s, is, ks⟩, b⟩ := x
            have hVA : (V.mk k n s is ks).A = .agg [.int .i64 k, .int .i64 n, .str s, .sl 5 .no (V.cellss is), .sl 1 .no (strsA ks)] := by simp only [V.A, V.cells]
            have cv := fun (m : List UInt8) (h : Hp) (hb : h.b[0]? = some (wtr ver m)) (hm : m.length + (Val.enc (.mk k n s is ks)).length + 10 ≤ 1000000000) => wv hb (.mk k n s is ks) hok.1 hm hok.2
            rw [hVA] at cv
            simp only [Sf.Outp.cells] at hg
            simp only [Sf.outE] at hs ht
            simp only [List.length_append] at ht
            have k1 := strE_le m
            (refine AX.run0 (And.intro t0 (And.intro t3 (And.intro ta (And.intro tb (And.intro tc (And.intro hlt (And.intro hg (And.intro hlt' hj0)))))))) ?_)
            refine use (wt rfl m (by simp only [List.length_append, hml]; omega)) ?_
            (refine AX.run0 (And.intro t0 (And.intro t3 (And.intro ta (And.intro tb tc)))) ?_)
            refine use (cv _ _ rfl (by simp only [List.length_append, hml]; omega)) ?_
            (refine AX.run0 (And.intro t0 (And.intro t3 (And.intro ta (And.intro tb tc)))) ?_)
            refine use (wf rfl b (by simp only [List.length_append, hml]; omega)) ?_
            (refine AX.run0 (And.intro t0 (And.intro t3 (And.intro ta (And.intro tb (And.intro tc ei))))) ?_)
            exact ⟨os.length - (j + 1), by omega, j + 1, l ++ [.cells 123 [.str m, .int .i64 k, .int .i64 n, .str s, .sl 5 .no (V.cellss is), .sl 1 .no (strsA ks), .bool b]], rfl, by omega, by rw [hs]; simp only [List.append_assoc], by (exact AX.ev0 t0), by (exact AX.ev0 t3), by (exact AX.ev0 ta), by (exact AX.ev0 tb), by (exact AX.ev0 ei)⟩
          · have hlt : ¬ ((j : Int) < (os.length : Int)) := by omega
            have hjl : j = os.length := by omega
            subst hjl
            rw [List.take_length]
            (refine AX.run0 (And.intro t0 (And.intro t3 (And.intro ta (And.intro tb (And.intro tc hlt))))) ?_)
            exact ⟨_, le_refl _, _, rfl, rfl, by rw [hE]; simp only [List.append_assoc, List.nil_append]⟩
      · (refine AX.runW (And.intro t0 (And.intro t3 (And.intro ta (And.intro tb (And.intro tc (And.intro hlt (And.intro e2 (And.intro lm1 (And.intro lm2 lm3))))))))) ?_)
        refine use (wn (i := 0) (ver := ver) (l := magic ++ Wire.num ver ++ Wire.strE lin ++ Wire.num ser ++ Wire.num ins.length ++ ins.flatMap (Sf.instE ver)) rfl _ (by simp only [List.length_append, hml]; omega) (by omega) (by omega)) ?_
        (refine AX.run0 (And.intro t0 (And.intro t3 (And.intro lm1 (And.intro lm2 lm3)))) ?_)
        refine awp_loop (fun mm ts h => ∃ (j : Nat) (l : List Blk), mm = ps.length - j ∧ j ≤ ps.length ∧ h = ⟨wtr ver (magic ++ Wire.num ver ++ Wire.strE lin ++ Wire.num ser ++ Wire.num ins.length ++ ins.flatMap (Sf.instE ver) ++ Wire.num ps.length ++ (ps.take j).flatMap Sf.pendE) :: .cells 26 [.str lin, .int .i64 ser, .sl 13 .no (ins.map Sf.Inst.cells), .sl 3 .no (ps.map Sf.Pend.cells), .sl 7 .no (os.map Sf.Outp.cells)] :: l, []⟩ ∧ ts 0 = .ptr 0 0 ∧ ts 3 = .ptr 1 0 ∧ ts 55 = .sl 3 .no (ps.map Sf.Pend.cells) ∧ ts 56 = .int .i64 (ps.length : Nat) ∧ ts 57 = .int .i64 (j : Nat)) ps.length ?_ ?_
        · exact ⟨0, l, by omega, by omega, by simp only [List.take_zero, List.flatMap_nil, List.append_nil], by (exact AX.ev0 t0), by (exact AX.ev0 t3), by (exact AX.ev0 (And.intro t0 t3)), by (exact AX.ev0 (And.intro t0 (And.intro t3 (And.intro lm1 (And.intro lm2 lm3))))), by (exact AX.inv0 (And.intro t0 t3))⟩
        · rintro mm ts h ⟨j, l, rfl, hjc, rfl, t0, t3, ta, tb, tc⟩
          by_cases hj : j < ps.length
          · have hlt : (j : Int) < (ps.length : Int) := by omega
            have hlt' : (j : Int) < ((ps.map Sf.Pend.cells).length : Int) := by rw [List.length_map]; exact hlt
            have hj0 : (0 : Int) ≤ (j : Int) := by omega
            have ei : IntKind.i64.wrap ((j : Int) + 1) = ((j + 1 : Nat) : Int) := by rw [wrap64 (by omega) (by omega)]; omega
            have hs := fm_snoc Sf.pendE ps j hj
            have ht := fm_le Sf.pendE ps (j + 1)
            have hg := map_getD Sf.Pend.cells ps j hj
            have hm := List.getElem_mem hj
            obtain ⟨x, hx⟩ : ∃ x, ps[j] = x := ⟨_, rfl⟩
            rw [hx] at hs hg
            rw [hs, List.length_append] at ht
            simp only [Sf.Pend.cells] at hg
            simp only [Sf.pendE] at hs ht
            simp only [List.length_append] at ht
            have k1 := strE_le x.addr
            have k2 := strE_le x.typ
            have k3 := strE_le x.tok
            (refine AX.run0 (And.intro t0 (And.intro t3 (And.intro ta (And.intro tb (And.intro tc (And.intro hlt (And.intro hg (And.intro hlt' hj0)))))))) ?_)
            refine use (wt rfl x.addr (by simp only [List.length_append, hml]; omega)) ?_
            (refine AX.run0 (And.intro t0 (And.intro t3 (And.intro ta (And.intro tb tc)))) ?_)
            refine use (wt rfl x.typ (by simp only [List.length_append, hml]; omega)) ?_
            (refine AX.run0 (And.intro t0 (And.intro t3 (And.intro ta (And.intro tb tc)))) ?_)
            refine use (wt rfl x.tok (by simp only [List.length_append, hml]; omega)) ?_
            (refine AX.run0 (And.intro t0 (And.intro t3 (And.intro ta (And.intro tb (And.intro tc ei))))) ?_)
            exact ⟨ps.length - (j + 1), by omega, j + 1, l ++ [.cells 121 [.str x.addr, .str x.typ, .str x.tok]], rfl, by omega, by rw [hs]; simp only [List.append_assoc], by (exact AX.ev0 t0), by (exact AX.ev0 t3), by (exact AX.ev0 ta), by (exact AX.ev0 tb), by (exact AX.ev0 ei)⟩
          · have hlt : ¬ ((j : Int) < (ps.length : Int)) := by omega
            have hjl : j = ps.length := by omega
            subst hjl
            rw [List.take_length]
            (refine AX.run0 (And.intro t0 (And.intro t3 (And.intro ta (And.intro tb (And.intro tc (And.intro hlt (And.intro lm1 (And.intro lm2 lm3)))))))) ?_)
            refine use (wn rfl _ (by simp only [List.length_append, hml]; omega) (by omega) (by omega)) ?_
            (refine AX.run0 (And.intro t0 (And.intro t3 (And.intro lm1 (And.intro lm2 lm3)))) ?_)
            refine awp_loop (fun mm ts h => ∃ (j : Nat) (l : List Blk), mm = os.length - j ∧ j ≤ os.length ∧ h = ⟨wtr ver (magic ++ Wire.num ver ++ Wire.strE lin ++ Wire.num ser ++ Wire.num ins.length ++ ins.flatMap (Sf.instE ver) ++ Wire.num ps.length ++ ps.flatMap Sf.pendE ++ Wire.num os.length ++ (os.take j).flatMap Sf.outE) :: .cells 26 [.str lin, .int .i64 ser, .sl 13 .no (ins.map Sf.Inst.cells), .sl 3 .no (ps.map Sf.Pend.cells), .sl 7 .no (os.map Sf.Outp.cells)] :: l, []⟩ ∧ ts 0 = .ptr 0 0 ∧ ts 3 = .ptr 1 0 ∧ ts 80 = .sl 7 .no (os.map Sf.Outp.cells) ∧ ts 81 = .int .i64 (os.length : Nat) ∧ ts 82 = .int .i64 (j : Nat)) os.length ?_ ?_
            · exact ⟨0, l, by omega, by omega, by simp only [List.take_zero, List.flatMap_nil, List.append_nil], by (exact AX.ev0 t0), by (exact AX.ev0 t3), by (exact AX.ev0 (And.intro t0 t3)), by (exact AX.ev0 (And.intro t0 (And.intro t3 (And.intro lm1 (And.intro lm2 lm3))))), by (exact AX.inv0 (And.intro t0 t3))⟩
            · rintro mm ts h ⟨j, l, rfl, hjc, rfl, t0, t3, ta, tb, tc⟩
              by_cases hj : j < os.length
              · have hlt : (j : Int) < (os.length : Int) := by omega
                have hlt' : (j : Int) < ((os.map Sf.Outp.cells).length : Int) := by rw [List.length_map]; exact hlt
                have hj0 : (0 : Int) ≤ (j : Int) := by omega
                have ei : IntKind.i64.wrap ((j : Int) + 1) = ((j + 1 : Nat) : Int) := by rw [wrap64 (by omega) (by omega)]; omega
                have hs := fm_snoc Sf.outE os j hj
                have ht := fm_le Sf.outE os (j + 1)
                have hg := map_getD Sf.Outp.cells os j hj
                have hm := List.getElem_mem hj
                have hok := ok.outs _ hm
                obtain ⟨x, hx⟩ : ∃ x, os[j] = x := ⟨_, rfl⟩
                rw [hx] at hs hg hok
                rw [hs, List.length_append] at ht
                obtain ⟨m, ⟨k, n, s, is, ks⟩, b⟩ := x
                have hVA : (V.mk k n s is ks).A = .agg [.int .i64 k, .int .i64 n, .str s, .sl 5 .no (V.cellss is), .sl 1 .no (strsA ks)] := by simp only [V.A, V.cells]
                have cv := fun (m : List UInt8) (h : Hp) (hb : h.b[0]? = some (wtr ver m)) (hm : m.length + (Val.enc (.mk k n s is ks)).length + 10 ≤ 1000000000) => wv hb (.mk k n s is ks) hok.1 hm hok.2
                rw [hVA] at cv
                simp only [Sf.Outp.cells] at hg
                simp only [Sf.outE] at hs ht
                simp only [List.length_append] at ht
                have k1 := strE_le m
                (refine AX.run0 (And.intro t0 (And.intro t3 (And.intro ta (And.intro tb (And.intro tc (And.intro hlt (And.intro hg (And.intro hlt' hj0)))))))) ?_)
                refine use (wt rfl m (by simp only [List.length_append, hml]; omega)) ?_
                (refine AX.run0 (And.intro t0 (And.intro t3 (And.intro ta (And.intro tb tc)))) ?_)
                refine use (cv _ _ rfl (by simp only [List.length_append, hml]; omega)) ?_
                (refine AX.run0 (And.intro t0 (And.intro t3 (And.intro ta (And.intro tb tc)))) ?_)
                refine use (wf rfl b (by simp only [List.length_append, hml]; omega)) ?_
                (refine AX.run0 (And.intro t0 (And.intro t3 (And.intro ta (And.intro tb (And.intro tc ei))))) ?_)
                exact ⟨os.length - (j + 1), by omega, j + 1, l ++ [.cells 123 [.str m, .int .i64 k, .int .i64 n, .str s, .sl 5 .no (V.cellss is), .sl 1 .no (strsA ks), .bool b]], rfl, by omega, by rw [hs]; simp only [List.append_assoc], by (exact AX.ev0 t0), by (exact AX.ev0 t3), by (exact AX.ev0 ta), by (exact AX.ev0 tb), by (exact AX.ev0 ei)⟩
              · have hlt : ¬ ((j : Int) < (os.length : Int)) := by omega
                have hjl : j = os.length := by omega
                subst hjl
                rw [List.take_length]
                (refine AX.run0 (And.intro t0 (And.intro t3 (And.intro ta (And.intro tb (And.intro tc hlt))))) ?_)
                exact ⟨_, le_refl _, _, rfl, rfl, by rw [hE]; simp only [List.append_assoc, List.nil_append]⟩
end AX
end Go.Proofs.YtkhhnkceiibmfaaGreatDoor

namespace Go.Proofs.YtkhhnkceiibmfaaGreatDoor
open Go.RowKit
set_option linter.unusedSimpArgs false
set_option linter.unusedVariables false
set_option maxHeartbeats 4000000
namespace AX
def c_stext : AX.AFn := ⟨9, .seq (.reg false [⟨some 2, .mv (.c (.bool false)), none, []⟩]) (.seq (.reg false [⟨some 3, .mv (.t 0), none, []⟩, ⟨some 4, .bin .neq (.t 3) (.c (.str [])), none, []⟩, ⟨some 5, .mv (.t 4), none, []⟩, ⟨some 6, .mv (.t 0), some (5, true), []⟩, ⟨some 7, .call 144 [.t 6], some (5, true), []⟩, ⟨some 8, .pick (.t 5) (.t 7) (.c (.bool false)), none, []⟩, ⟨some 2, .mv (.t 8), none, []⟩]) (.ret)), [.t 2]⟩
theorem h_stext : AX.compFn Tryz.prog 76 = some c_stext := by kernel_rfl
def c_scheck : AX.AFn := ⟨128, .seq (.reg false [⟨some 1, .box 26 (.t 0), none, []⟩, ⟨some 2, .mv (.c (.int .i64 0)), none, []⟩]) (.seq (.seq (.reg false [⟨some 11, .faddr 0 (.t 1), none, []⟩, ⟨some 12, .load false 1 (.t 11), none, []⟩, ⟨some 13, .call 76 [.t 12], none, []⟩, ⟨some 14, .un .not (.t 13), none, []⟩]) (.cond (.t 14) (.seq (.reg false [⟨some 2, .mv (.c (.int .i64 1)), none, []⟩]) (.ret)) (.skip))) (.seq (.seq (.reg false [⟨some 15, .faddr 1 (.t 1), none, []⟩, ⟨some 16, .load false 1 (.t 15), none, []⟩, ⟨some 17, .bin .lss (.t 16) (.c (.int .i64 0)), none, []⟩, ⟨some 18, .mv (.t 17), none, []⟩, ⟨some 19, .faddr 1 (.t 1), some (18, false), []⟩, ⟨some 20, .load false 1 (.t 19), some (18, false), []⟩, ⟨some 21, .bin .gtr (.t 20) (.c (.int .i64 9007199254740992)), some (18, false), []⟩, ⟨some 22, .pick (.t 18) (.c (.bool true)) (.t 21), none, []⟩]) (.cond (.t 22) (.seq (.reg false [⟨some 2, .mv (.c (.int .i64 5)), none, []⟩]) (.ret)) (.skip))) (.seq (.seq (.reg false [⟨some 23, .faddr 2 (.t 1), none, []⟩, ⟨some 24, .load false 1 (.t 23), none, []⟩, ⟨some 25, .len false (.t 24), none, []⟩, ⟨some 26, .faddr 3 (.t 1), none, []⟩, ⟨some 27, .load false 1 (.t 26), none, []⟩, ⟨some 28, .len false (.t 27), none, []⟩, ⟨some 29, .faddr 4 (.t 1), none, []⟩, ⟨some 30, .load false 1 (.t 29), none, []⟩, ⟨some 31, .len false (.t 30), none, []⟩, ⟨some 32, .max3 (.t 25) (.t 28) (.t 31), none, []⟩, ⟨some 33, .bin .gtr (.t 32) (.c (.int .i64 512)), none, []⟩]) (.cond (.t 33) (.seq (.reg false [⟨some 2, .mv (.c (.int .i64 14)), none, []⟩]) (.ret)) (.skip))) (.seq (.seq (.reg false [⟨some 34, .faddr 2 (.t 1), none, []⟩, ⟨some 35, .load false 1 (.t 34), none, []⟩, ⟨some 36, .len false (.t 35), none, []⟩, ⟨some 37, .mv (.c (.int .i64 0)), none, []⟩]) (.block 0 (.loop (.seq (.reg false [⟨some 38, .bin .lss (.t 37) (.t 36), none, []⟩]) (.seq (.cond (.t 38) (.skip) (.exit 0)) (.seq (.block 1 (.seq (.reg false [⟨some 39, .mv (.t 37), none, []⟩, ⟨some 40, .iaddr 13 (.t 35) (.t 37), none, []⟩, ⟨some 41, .load true 13 (.t 40), none, []⟩, ⟨some 4, .alloc 46 [.str [], .str [], .str [], .str [], .int .i64 0, .int .i64 0, .str [], .sl 0 .nil [], .sl 0 .nil [], .int .i64 0, .bool false, .bool false, .sl 0 .nil []], none, []⟩, ⟨some 3, .mv (.t 39), none, []⟩, ⟨none, .store 13 (.t 4) (.t 41), none, []⟩]) (.seq (.seq (.reg false [⟨some 42, .load true 13 (.t 4), none, []⟩, ⟨some 43, .call 77 [.t 42], none, []⟩, ⟨some 5, .mv (.t 43), none, []⟩]) (.seq (.reg false [⟨some 44, .mv (.t 5), none, []⟩, ⟨some 45, .bin .neq (.t 44) (.c (.int .i64 0)), none, []⟩]) (.cond (.t 45) (.seq (.reg false [⟨some 46, .mv (.t 5), none, []⟩, ⟨some 2, .mv (.t 46), none, []⟩]) (.ret)) (.skip)))) (.seq (.reg true [⟨some 47, .mv (.t 3), none, []⟩, ⟨some 48, .bin .gtr (.t 47) (.c (.int .i64 0)), none, [0]⟩, ⟨some 49, .mv (.t 48), none, [1]⟩, ⟨some 50, .faddr 2 (.t 1), some (49, true), [2]⟩, ⟨some 51, .load false 1 (.t 50), some (49, true), [3, 2]⟩, ⟨some 52, .mv (.t 3), some (49, true), [2]⟩, ⟨some 53, .bin .sub (.t 52) (.c (.int .i64 1)), some (49, true), [5, 2]⟩, ⟨some 54, .iaddr 13 (.t 51) (.t 53), some (49, true), [4, 6, 2]⟩, ⟨some 55, .load true 13 (.t 54), some (49, true), [7, 2]⟩, ⟨some 56, .call 78 [.t 55], some (49, true), [8, 2, 2]⟩, ⟨some 57, .load true 13 (.t 4), some (49, true), [2]⟩, ⟨some 58, .call 78 [.t 57], some (49, true), [10, 9, 2]⟩, ⟨some 59, .call 79 [.t 56, .t 58], some (49, true), [9, 11, 11, 2]⟩, ⟨some 60, .bin .geq (.t 59) (.c (.int .i64 0)), some (49, true), [12, 2]⟩, ⟨some 61, .pick (.t 49) (.t 60) (.c (.bool false)), none, [2, 13]⟩]) (.cond (.t 61) (.seq (.reg false [⟨some 2, .mv (.c (.int .i64 1)), none, []⟩]) (.ret)) (.skip)))))) (.reg false [⟨some 62, .bin .add (.t 37) (.c (.int .i64 1)), none, []⟩, ⟨some 37, .mv (.t 62), none, []⟩]))))))) (.seq (.seq (.reg false [⟨some 63, .faddr 3 (.t 1), none, []⟩, ⟨some 64, .load false 1 (.t 63), none, []⟩, ⟨some 65, .len false (.t 64), none, []⟩, ⟨some 66, .mv (.c (.int .i64 0)), none, []⟩]) (.block 2 (.loop (.seq (.reg false [⟨some 67, .bin .lss (.t 66) (.t 65), none, []⟩]) (.seq (.cond (.t 67) (.skip) (.exit 2)) (.seq (.block 3 (.seq (.reg false [⟨some 68, .mv (.t 66), none, []⟩, ⟨some 69, .iaddr 3 (.t 64) (.t 66), none, []⟩, ⟨some 70, .load true 3 (.t 69), none, []⟩, ⟨some 7, .alloc 121 [.str [], .str [], .str []], none, []⟩, ⟨some 6, .mv (.t 68), none, []⟩, ⟨none, .store 3 (.t 7) (.t 70), none, []⟩]) (.seq (.reg true [⟨some 71, .faddr 2 (.t 7), none, []⟩, ⟨some 72, .load false 1 (.t 71), none, [0]⟩, ⟨some 73, .call 76 [.t 72], none, [1]⟩, ⟨some 74, .un .not (.t 73), none, [2]⟩, ⟨some 75, .mv (.t 74), none, [3, 2]⟩, ⟨some 76, .faddr 0 (.t 7), some (75, false), [4]⟩, ⟨some 77, .load false 1 (.t 76), some (75, false), [5, 4]⟩, ⟨some 78, .faddr 1 (.t 7), some (75, false), [4]⟩, ⟨some 79, .load false 1 (.t 78), some (75, false), [7, 4]⟩, ⟨some 80, .call 80 [.t 77, .t 79], some (75, false), [6, 8, 4, 4]⟩, ⟨some 81, .un .not (.t 80), some (75, false), [9, 4]⟩, ⟨some 82, .pick (.t 75) (.c (.bool true)) (.t 81), none, [4, 10]⟩, ⟨some 83, .mv (.t 82), none, [11, 9]⟩, ⟨some 84, .mv (.t 6), some (83, false), [12]⟩, ⟨some 85, .bin .gtr (.t 84) (.c (.int .i64 0)), some (83, false), [13, 12]⟩, ⟨some 86, .mv (.t 85), some (83, false), [14, 12, 12]⟩, ⟨some 87, .faddr 3 (.t 1), some (86, true), [15]⟩, ⟨some 88, .load false 1 (.t 87), some (86, true), [16, 15]⟩, ⟨some 89, .mv (.t 6), some (86, true), [15]⟩, ⟨some 90, .bin .sub (.t 89) (.c (.int .i64 1)), some (86, true), [18, 15]⟩, ⟨some 91, .iaddr 3 (.t 88) (.t 90), some (86, true), [17, 19, 15]⟩, ⟨some 92, .faddr 2 (.t 91), some (86, true), [20, 15]⟩, ⟨some 93, .load false 1 (.t 92), some (86, true), [21, 15]⟩, ⟨some 94, .faddr 2 (.t 7), some (86, true), [15]⟩, ⟨some 95, .load false 1 (.t 94), some (86, true), [23, 15]⟩, ⟨some 96, .bin .geq (.t 93) (.t 95), some (86, true), [22, 24, 15]⟩, ⟨some 97, .pick (.t 86) (.t 96) (.c (.bool false)), some (83, false), [15, 25, 12]⟩, ⟨some 98, .pick (.t 83) (.c (.bool true)) (.t 97), none, [12, 26]⟩]) (.cond (.t 98) (.seq (.reg false [⟨some 2, .mv (.c (.int .i64 1)), none, []⟩]) (.ret)) (.skip))))) (.reg false [⟨some 99, .bin .add (.t 66) (.c (.int .i64 1)), none, []⟩, ⟨some 66, .mv (.t 99), none, []⟩]))))))) (.seq (.seq (.reg false [⟨some 100, .faddr 4 (.t 1), none, []⟩, ⟨some 101, .load false 1 (.t 100), none, []⟩, ⟨some 102, .len false (.t 101), none, []⟩, ⟨some 103, .mv (.c (.int .i64 0)), none, []⟩]) (.block 4 (.loop (.seq (.reg false [⟨some 104, .bin .lss (.t 103) (.t 102), none, []⟩]) (.seq (.cond (.t 104) (.skip) (.exit 4)) (.seq (.block 5 (.seq (.reg false [⟨some 105, .mv (.t 103), none, []⟩, ⟨some 106, .iaddr 7 (.t 101) (.t 103), none, []⟩, ⟨some 107, .load true 7 (.t 106), none, []⟩, ⟨some 9, .alloc 123 [.str [], .int .i64 0, .int .i64 0, .str [], .sl 0 .nil [], .sl 0 .nil [], .bool false], none, []⟩, ⟨some 8, .mv (.t 105), none, []⟩, ⟨none, .store 7 (.t 9) (.t 107), none, []⟩]) (.seq (.seq (.reg false [⟨some 108, .load true 7 (.t 9), none, []⟩, ⟨some 109, .call 81 [.t 108], none, []⟩, ⟨some 10, .mv (.t 109), none, []⟩]) (.seq (.reg false [⟨some 110, .mv (.t 10), none, []⟩, ⟨some 111, .bin .neq (.t 110) (.c (.int .i64 0)), none, []⟩]) (.cond (.t 111) (.seq (.reg false [⟨some 112, .mv (.t 10), none, []⟩, ⟨some 2, .mv (.t 112), none, []⟩]) (.ret)) (.skip)))) (.seq (.reg true [⟨some 113, .mv (.t 8), none, []⟩, ⟨some 114, .bin .gtr (.t 113) (.c (.int .i64 0)), none, [0]⟩, ⟨some 115, .mv (.t 114), none, [1]⟩, ⟨some 116, .faddr 4 (.t 1), some (115, true), [2]⟩, ⟨some 117, .load false 1 (.t 116), some (115, true), [3, 2]⟩, ⟨some 118, .mv (.t 8), some (115, true), [2]⟩, ⟨some 119, .bin .sub (.t 118) (.c (.int .i64 1)), some (115, true), [5, 2]⟩, ⟨some 120, .iaddr 7 (.t 117) (.t 119), some (115, true), [4, 6, 2]⟩, ⟨some 121, .faddr 0 (.t 120), some (115, true), [7, 2]⟩, ⟨some 122, .load false 1 (.t 121), some (115, true), [8, 2]⟩, ⟨some 123, .faddr 0 (.t 9), some (115, true), [2]⟩, ⟨some 124, .load false 1 (.t 123), some (115, true), [10, 2]⟩, ⟨some 125, .bin .geq (.t 122) (.t 124), some (115, true), [9, 11, 2]⟩, ⟨some 126, .pick (.t 115) (.t 125) (.c (.bool false)), none, [2, 12]⟩]) (.cond (.t 126) (.seq (.reg false [⟨some 2, .mv (.c (.int .i64 1)), none, []⟩]) (.ret)) (.skip)))))) (.reg false [⟨some 127, .bin .add (.t 103) (.c (.int .i64 1)), none, []⟩, ⟨some 103, .mv (.t 127), none, []⟩]))))))) (.seq (.reg false [⟨some 2, .mv (.c (.int .i64 0)), none, []⟩]) (.ret)))))))), [.t 2]⟩
theorem h_scheck : AX.compFn Tryz.prog 24 = some c_scheck := by kernel_rfl

theorem a_stext (s : List UInt8) (hs : s.length ≤ 2000000) (h : Hp) : ACall Tryz.prog GT 76 [.str s] h fun r h' => r = .bool (s != [] && Str.valid s) ∧ h' = h := by
  refine pcall ?_ rfl (by simp [A.pure, A.data]) h
  refine acall_of mixedT h_stext (by simp [c_stext]) ?_
  dsimp only [c_stext]
  rcases bool_or (s != []) with h1 | h1
  · (refine AX.go0 h1 ?_)
    (refine AX.gc0 h1 ?_)
    refine (a_valid s hs _).mono ?_
    rintro v h1' ⟨rfl, rfl⟩
    (refine AX.go0 h1 ?_)
    exact ⟨_, le_refl _, by rw [tupA_1, h1]; rfl⟩
  · (refine AX.go0 h1 ?_)
    exact ⟨_, le_refl _, by rw [tupA_1, h1]; rfl⟩
theorem a_scheck0 (s : List UInt8) (n : Int) (hs : s.length ≤ 1000000) (hv : (s != [] && Str.valid s) = true) (h0 : 0 ≤ n) (h1 : n ≤ 9007199254740992) (h : Hp) : ACall Tryz.prog GT 24 [.agg [.str s, .int .i64 n, .sl 13 .no [], .sl 3 .no [], .sl 7 .no []]] h fun r h' => r = .int .i64 0 ∧ h' = h := by
  refine pcall ?_ rfl (by simp [A.pure, A.data]) h
  refine acall_of mixedT h_scheck (by simp [c_scheck]) ?_
  dsimp only [c_scheck]
  (refine AX.go0 True.intro ?_)
  (refine AX.gc0 True.intro ?_)
  refine (a_stext s (by omega) _).mono ?_
  rintro v h1' ⟨rfl, rfl⟩
  rw [hv]
  have e1 : ¬ n < 0 := by omega
  have e2 : ¬ n > 9007199254740992 := by omega
  have hz : ¬ (0 : Int) < ((0 : Nat) : Int) := by decide
  have hg : ¬ ((0 : Nat) : Int) > ((0 : Nat) : Int) := by decide
  have hg2 : ¬ ((0 : Nat) : Int) > 512 := by decide
  (refine AX.go0 (And.intro e1 (And.intro e2 (And.intro hg hg2))) ?_)
  refine go_once ?_
  (refine AX.go0 hz ?_)
  refine go_once ?_
  (refine AX.go0 hz ?_)
  refine go_once ?_
  (refine AX.go0 hz ?_)
  exact ⟨_, le_refl _, rfl⟩
end AX
end Go.Proofs.YtkhhnkceiibmfaaGreatDoor

namespace Go.Proofs.YtkhhnkceiibmfaaGreatDoor
open Go.RowKit
set_option linter.unusedSimpArgs false
set_option linter.unusedVariables false
set_option maxHeartbeats 4000000
namespace AX
def c_encode : AX.AFn := ⟨29, .seq (.reg false [⟨some 2, .box 26 (.t 0), none, []⟩, ⟨some 4, .mv (.c (.str [])), none, []⟩, ⟨some 5, .mv (.c (.int .i64 0)), none, []⟩]) (.seq (.seq (.reg false [⟨some 8, .load true 5 (.t 2), none, []⟩, ⟨some 9, .call 24 [.t 8], none, []⟩, ⟨some 6, .mv (.t 9), none, []⟩]) (.seq (.reg false [⟨some 10, .mv (.t 6), none, []⟩, ⟨some 11, .bin .neq (.t 10) (.c (.int .i64 0)), none, []⟩]) (.cond (.t 11) (.seq (.reg false [⟨some 12, .mv (.t 6), none, []⟩, ⟨some 4, .mv (.c (.str [])), none, []⟩, ⟨some 5, .mv (.t 12), none, []⟩]) (.ret)) (.skip)))) (.seq (.reg false [⟨some 13, .mv (.t 1), none, []⟩, ⟨some 14, .build [.nilp, .sl 0 .nil [], .int .i64 0] [(2, 1, .t 13)], none, []⟩, ⟨some 15, .box 161 (.t 14), none, []⟩, ⟨some 7, .mv (.t 15), none, []⟩]) (.seq (.reg false [⟨some 16, .mv (.t 7), none, []⟩, ⟨some 17, .load true 5 (.t 2), none, []⟩, ⟨some 18, .call 112 [.t 16, .t 17], none, []⟩]) (.seq (.seq (.reg false [⟨some 19, .mv (.t 7), none, []⟩, ⟨some 20, .nilck (.t 19), none, []⟩, ⟨some 21, .faddr 0 (.t 20), none, []⟩, ⟨some 22, .call 113 [.t 21], none, []⟩, ⟨some 23, .bin .gtr (.t 22) (.c (.int .i64 1048572)), none, []⟩]) (.cond (.t 23) (.seq (.reg false [⟨some 4, .mv (.c (.str [])), none, []⟩, ⟨some 5, .mv (.c (.int .i64 3)), none, []⟩]) (.ret)) (.skip))) (.seq (.reg false [⟨some 24, .mv (.t 7), none, []⟩, ⟨some 25, .nilck (.t 24), none, []⟩, ⟨some 26, .faddr 0 (.t 25), none, []⟩, ⟨some 27, .call 111 [.t 26], none, []⟩, ⟨some 28, .call 114 [.t 27], none, []⟩, ⟨some 4, .mv (.t 28), none, []⟩, ⟨some 5, .mv (.c (.int .i64 0)), none, []⟩]) (.ret)))))), [.t 4, .t 5]⟩
theorem h_encode : AX.compFn Tryz.prog 61 = some c_encode := by kernel_rfl
def c_Encode : AX.AFn := ⟨8, .seq (.reg false [⟨some 1, .box 26 (.t 0), none, []⟩, ⟨some 2, .mv (.c (.str [])), none, []⟩, ⟨some 3, .mv (.c (.int .i64 0)), none, []⟩]) (.seq (.reg false [⟨some 4, .load true 5 (.t 1), none, []⟩, ⟨some 5, .call 61 [.t 4, .c (.int .i64 2)], none, []⟩, ⟨some 6, .extract (.t 5) 0, none, []⟩, ⟨some 7, .extract (.t 5) 1, none, []⟩, ⟨some 2, .mv (.t 6), none, []⟩, ⟨some 3, .mv (.t 7), none, []⟩]) (.ret)), [.t 2, .t 3]⟩
theorem h_Encode : AX.compFn Tryz.prog 15 = some c_Encode := by kernel_rfl
def c_EncodeOld : AX.AFn := ⟨8, .seq (.reg false [⟨some 1, .box 26 (.t 0), none, []⟩, ⟨some 2, .mv (.c (.str [])), none, []⟩, ⟨some 3, .mv (.c (.int .i64 0)), none, []⟩]) (.seq (.reg false [⟨some 4, .load true 5 (.t 1), none, []⟩, ⟨some 5, .call 61 [.t 4, .c (.int .i64 1)], none, []⟩, ⟨some 6, .extract (.t 5) 0, none, []⟩, ⟨some 7, .extract (.t 5) 1, none, []⟩, ⟨some 2, .mv (.t 6), none, []⟩, ⟨some 3, .mv (.t 7), none, []⟩]) (.ret)), [.t 2, .t 3]⟩
theorem h_EncodeOld : AX.compFn Tryz.prog 17 = some c_EncodeOld := by kernel_rfl
def c_Decode : AX.AFn := ⟨64, .seq (.reg false [⟨some 2, .alloc 26 [.str [], .int .i64 0, .sl 0 .nil [], .sl 0 .nil [], .sl 0 .nil []], none, []⟩, ⟨some 3, .mv (.c (.int .i64 0)), none, []⟩]) (.seq (.seq (.reg false [⟨some 9, .mv (.t 0), none, []⟩, ⟨some 10, .len true (.t 9), none, []⟩, ⟨some 11, .bin .gtr (.t 10) (.c (.int .i64 1048576)), none, []⟩]) (.cond (.t 11) (.seq (.reg false [⟨some 12, .build [.str [], .int .i64 0, .sl 0 .nil [], .sl 0 .nil [], .sl 0 .nil []] [], none, []⟩, ⟨none, .store 5 (.t 2) (.t 12), none, []⟩, ⟨some 3, .mv (.c (.int .i64 3)), none, []⟩]) (.ret)) (.skip))) (.seq (.seq (.reg false [⟨some 13, .mv (.t 0), none, []⟩, ⟨some 14, .call 63 [.t 13, .c (.str [80, 86, 83, 84])], none, []⟩, ⟨some 15, .un .not (.t 14), none, []⟩]) (.cond (.t 15) (.seq (.reg false [⟨some 16, .build [.str [], .int .i64 0, .sl 0 .nil [], .sl 0 .nil [], .sl 0 .nil []] [], none, []⟩, ⟨none, .store 5 (.t 2) (.t 16), none, []⟩, ⟨some 3, .mv (.c (.int .i64 2)), none, []⟩]) (.ret)) (.skip))) (.seq (.reg false [⟨some 18, .mv (.t 0), none, []⟩, ⟨some 19, .call 64 [.t 18], none, []⟩, ⟨some 17, .mv (.t 19), none, []⟩, ⟨some 20, .extract (.t 17) 0, none, []⟩, ⟨some 21, .extract (.t 17) 1, none, []⟩, ⟨some 4, .mv (.t 20), none, []⟩, ⟨some 5, .mv (.t 21), none, []⟩]) (.seq (.seq (.reg false [⟨some 22, .mv (.t 5), none, []⟩, ⟨some 23, .bin .neq (.t 22) (.c (.int .i64 0)), none, []⟩]) (.cond (.t 23) (.seq (.reg false [⟨some 24, .build [.str [], .int .i64 0, .sl 0 .nil [], .sl 0 .nil [], .sl 0 .nil []] [], none, []⟩, ⟨none, .store 5 (.t 2) (.t 24), none, []⟩, ⟨some 3, .mv (.c (.int .i64 20)), none, []⟩]) (.ret)) (.skip))) (.seq (.reg false [⟨some 26, .mv (.t 4), none, []⟩, ⟨some 27, .call 21 [.t 26], none, []⟩, ⟨some 25, .mv (.t 27), none, []⟩, ⟨some 28, .extract (.t 25) 0, none, []⟩, ⟨some 29, .extract (.t 25) 1, none, []⟩, ⟨some 6, .mv (.t 28), none, []⟩, ⟨some 5, .mv (.t 29), none, []⟩]) (.seq (.seq (.reg false [⟨some 30, .mv (.t 5), none, []⟩, ⟨some 31, .bin .neq (.t 30) (.c (.int .i64 0)), none, []⟩]) (.cond (.t 31) (.seq (.reg false [⟨some 32, .build [.str [], .int .i64 0, .sl 0 .nil [], .sl 0 .nil [], .sl 0 .nil []] [], none, []⟩, ⟨some 33, .mv (.t 5), none, []⟩, ⟨none, .store 5 (.t 2) (.t 32), none, []⟩, ⟨some 3, .mv (.t 33), none, []⟩]) (.ret)) (.skip))) (.seq (.reg false [⟨some 34, .mv (.t 4), none, []⟩, ⟨some 35, .ssl (.t 34) (some (.c (.int .i64 4))) none, none, []⟩, ⟨some 36, .call 65 [.t 35], none, []⟩, ⟨some 37, .mv (.t 6), none, []⟩, ⟨some 38, .build [.nilp, .int .i64 0, .bool false] [(0, 1, .t 36), (1, 1, .t 37)], none, []⟩, ⟨some 39, .box 108 (.t 38), none, []⟩, ⟨some 7, .mv (.t 39), none, []⟩]) (.seq (.reg false [⟨some 40, .mv (.t 7), none, []⟩, ⟨some 41, .nilck (.t 40), none, []⟩, ⟨some 42, .faddr 0 (.t 41), none, []⟩, ⟨some 43, .load false 1 (.t 42), none, []⟩, ⟨some 44, .call 66 [.t 43], none, []⟩]) (.seq (.reg false [⟨some 45, .mv (.t 7), none, []⟩, ⟨some 46, .call 67 [.t 45], none, []⟩, ⟨some 8, .alloc 26 [.str [], .int .i64 0, .sl 0 .nil [], .sl 0 .nil [], .sl 0 .nil []], none, []⟩, ⟨none, .store 5 (.t 8) (.t 46), none, []⟩]) (.seq (.seq (.reg false [⟨some 47, .mv (.t 7), none, []⟩, ⟨some 48, .call 68 [.t 47], none, []⟩, ⟨some 49, .mv (.t 48), none, []⟩, ⟨some 50, .mv (.t 7), some (49, false), []⟩, ⟨some 51, .nilck (.t 50), some (49, false), []⟩, ⟨some 52, .faddr 0 (.t 51), some (49, false), []⟩, ⟨some 53, .load false 1 (.t 52), some (49, false), []⟩, ⟨some 54, .call 69 [.t 53], some (49, false), []⟩, ⟨some 55, .bin .gtr (.t 54) (.c (.int .i64 0)), some (49, false), []⟩, ⟨some 56, .pick (.t 49) (.c (.bool true)) (.t 55), none, []⟩, ⟨some 57, .mv (.t 56), none, []⟩, ⟨some 58, .load true 5 (.t 8), some (57, false), []⟩, ⟨some 59, .call 24 [.t 58], some (57, false), []⟩, ⟨some 60, .bin .neq (.t 59) (.c (.int .i64 0)), some (57, false), []⟩, ⟨some 61, .pick (.t 57) (.c (.bool true)) (.t 60), none, []⟩]) (.cond (.t 61) (.seq (.reg false [⟨some 62, .build [.str [], .int .i64 0, .sl 0 .nil [], .sl 0 .nil [], .sl 0 .nil []] [], none, []⟩, ⟨none, .store 5 (.t 2) (.t 62), none, []⟩, ⟨some 3, .mv (.c (.int .i64 2)), none, []⟩]) (.ret)) (.skip))) (.seq (.reg false [⟨some 63, .load true 5 (.t 8), none, []⟩, ⟨none, .store 5 (.t 2) (.t 63), none, []⟩, ⟨some 3, .mv (.c (.int .i64 0)), none, []⟩]) (.ret)))))))))))), [.c 2 true 5, .t 3]⟩
theorem h_Decode : AX.compFn Tryz.prog 19 = some c_Decode := by kernel_rfl
def c_awake : AX.AFn := ⟨91, .seq (.reg false [⟨some 0, .mv (.c (.bool false)), none, []⟩]) (.seq (.reg false [⟨some 14, .build [.str [], .int .i64 0, .sl 0 .nil [], .sl 0 .nil [], .sl 0 .nil []] [(0, 1, .c (.str [97])), (1, 1, .c (.int .i64 1))], none, []⟩, ⟨some 1, .alloc 26 [.str [], .int .i64 0, .sl 0 .nil [], .sl 0 .nil [], .sl 0 .nil []], none, []⟩, ⟨none, .store 5 (.t 1) (.t 14), none, []⟩]) (.seq (.reg false [⟨some 16, .load true 5 (.t 1), none, []⟩, ⟨some 17, .call 15 [.t 16], none, []⟩, ⟨some 15, .mv (.t 17), none, []⟩, ⟨some 18, .extract (.t 15) 0, none, []⟩, ⟨some 19, .extract (.t 15) 1, none, []⟩, ⟨some 2, .mv (.t 18), none, []⟩, ⟨some 3, .mv (.t 19), none, []⟩]) (.seq (.reg false [⟨some 21, .load true 5 (.t 1), none, []⟩, ⟨some 22, .call 17 [.t 21], none, []⟩, ⟨some 20, .mv (.t 22), none, []⟩, ⟨some 23, .extract (.t 20) 0, none, []⟩, ⟨some 24, .extract (.t 20) 1, none, []⟩, ⟨some 4, .mv (.t 23), none, []⟩, ⟨some 5, .mv (.t 24), none, []⟩]) (.seq (.reg false [⟨some 26, .call 19 [.c (.str [])], none, []⟩, ⟨some 25, .mv (.t 26), none, []⟩, ⟨some 27, .extract (.t 25) 0, none, []⟩, ⟨some 28, .extract (.t 25) 1, none, []⟩, ⟨some 6, .alloc 26 [.str [], .int .i64 0, .sl 0 .nil [], .sl 0 .nil [], .sl 0 .nil []], none, []⟩, ⟨none, .store 5 (.t 6) (.t 27), none, []⟩, ⟨some 7, .mv (.t 28), none, []⟩]) (.seq (.reg false [⟨some 30, .call 19 [.c (.str [80, 86, 83, 84])], none, []⟩, ⟨some 29, .mv (.t 30), none, []⟩, ⟨some 31, .extract (.t 29) 0, none, []⟩, ⟨some 32, .extract (.t 29) 1, none, []⟩, ⟨some 8, .alloc 26 [.str [], .int .i64 0, .sl 0 .nil [], .sl 0 .nil [], .sl 0 .nil []], none, []⟩, ⟨none, .store 5 (.t 8) (.t 31), none, []⟩, ⟨some 9, .mv (.t 32), none, []⟩]) (.seq (.reg false [⟨some 34, .mv (.t 2), none, []⟩, ⟨some 35, .call 21 [.t 34], none, []⟩, ⟨some 33, .mv (.t 35), none, []⟩, ⟨some 36, .extract (.t 33) 0, none, []⟩, ⟨some 37, .extract (.t 33) 1, none, []⟩, ⟨some 10, .mv (.t 36), none, []⟩, ⟨some 11, .mv (.t 37), none, []⟩]) (.seq (.reg false [⟨some 39, .call 21 [.c (.str [80, 86, 83, 84, 6])], none, []⟩, ⟨some 38, .mv (.t 39), none, []⟩, ⟨some 40, .extract (.t 38) 0, none, []⟩, ⟨some 41, .extract (.t 38) 1, none, []⟩, ⟨some 12, .mv (.t 40), none, []⟩, ⟨some 13, .mv (.t 41), none, []⟩]) (.seq (.seq (.reg false [⟨some 42, .mv (.t 3), none, []⟩, ⟨some 43, .bin .neq (.t 42) (.c (.int .i64 0)), none, []⟩, ⟨some 44, .mv (.t 43), none, []⟩, ⟨some 45, .mv (.t 5), some (44, false), []⟩, ⟨some 46, .bin .neq (.t 45) (.c (.int .i64 0)), some (44, false), []⟩, ⟨some 47, .pick (.t 44) (.c (.bool true)) (.t 46), none, []⟩, ⟨some 48, .mv (.t 47), none, []⟩, ⟨some 49, .mv (.t 2), some (48, false), []⟩, ⟨some 50, .len true (.t 49), some (48, false), []⟩, ⟨some 51, .bin .neq (.t 50) (.c (.int .i64 15)), some (48, false), []⟩, ⟨some 52, .pick (.t 48) (.c (.bool true)) (.t 51), none, []⟩, ⟨some 53, .mv (.t 52), none, []⟩, ⟨some 54, .mv (.t 4), some (53, false), []⟩, ⟨some 55, .len true (.t 54), some (53, false), []⟩, ⟨some 56, .bin .neq (.t 55) (.c (.int .i64 14)), some (53, false), []⟩, ⟨some 57, .pick (.t 53) (.c (.bool true)) (.t 56), none, []⟩]) (.cond (.t 57) (.seq (.reg false [⟨some 0, .mv (.c (.bool false)), none, []⟩]) (.ret)) (.skip))) (.seq (.reg false [⟨some 58, .mv (.t 2), none, []⟩, ⟨some 59, .ssl (.t 58) none (some (.c (.int .i64 11))), none, []⟩, ⟨some 60, .bin .eql (.t 59) (.c (.str [80, 86, 83, 84, 4, 2, 97, 2, 0, 0, 0])), none, []⟩, ⟨some 61, .mv (.t 60), none, []⟩, ⟨some 62, .mv (.t 4), some (61, true), []⟩, ⟨some 63, .sidx (.t 62) (.c (.int .i64 4)), some (61, true), []⟩, ⟨some 64, .bin .eql (.t 63) (.c (.int .u8 2)), some (61, true), []⟩, ⟨some 65, .pick (.t 61) (.t 64) (.c (.bool false)), none, []⟩, ⟨some 66, .mv (.t 65), none, []⟩, ⟨some 67, .mv (.t 7), some (66, true), []⟩, ⟨some 68, .bin .eql (.t 67) (.c (.int .i64 2)), some (66, true), []⟩, ⟨some 69, .pick (.t 66) (.t 68) (.c (.bool false)), none, []⟩, ⟨some 70, .mv (.t 69), none, []⟩, ⟨some 71, .mv (.t 9), some (70, true), []⟩, ⟨some 72, .bin .eql (.t 71) (.c (.int .i64 20)), some (70, true), []⟩, ⟨some 73, .pick (.t 70) (.t 72) (.c (.bool false)), none, []⟩, ⟨some 74, .mv (.t 73), none, []⟩, ⟨some 75, .mv (.t 10), some (74, true), []⟩, ⟨some 76, .bin .eql (.t 75) (.c (.int .i64 2)), some (74, true), []⟩, ⟨some 77, .pick (.t 74) (.t 76) (.c (.bool false)), none, []⟩, ⟨some 78, .mv (.t 77), none, []⟩, ⟨some 79, .mv (.t 11), some (78, true), []⟩, ⟨some 80, .bin .eql (.t 79) (.c (.int .i64 0)), some (78, true), []⟩, ⟨some 81, .pick (.t 78) (.t 80) (.c (.bool false)), none, []⟩, ⟨some 82, .mv (.t 81), none, []⟩, ⟨some 83, .mv (.t 13), some (82, true), []⟩, ⟨some 84, .bin .eql (.t 83) (.c (.int .i64 21)), some (82, true), []⟩, ⟨some 85, .pick (.t 82) (.t 84) (.c (.bool false)), none, []⟩, ⟨some 86, .mv (.t 85), none, []⟩, ⟨some 87, .build [.int .i64 0, .int .i64 0, .str [], .sl 0 .nil [], .sl 0 .nil []] [(0, 1, .c (.int .i64 1)), (1, 1, .c (.int .i64 1))], some (86, true), []⟩, ⟨some 88, .call 60 [.c (.str []), .t 87], some (86, true), []⟩, ⟨some 89, .bin .eql (.t 88) (.c (.str [2, 2])), some (86, true), []⟩, ⟨some 90, .pick (.t 86) (.t 89) (.c (.bool false)), none, []⟩, ⟨some 0, .mv (.t 90), none, []⟩]) (.ret)))))))))), [.t 0]⟩
theorem h_awake : AX.compFn Tryz.prog 14 = some c_awake := by kernel_rfl

theorem a_csAppend (s : List UInt8) (hs : s.length ≤ 1000000000) (h : Hp) : ACall Tryz.prog GT 114 [.str s] h fun v h' => v = .str (Crc.app s) ∧ h' = h :=
  acall_imp (args1 r_str) (fun w hg => append_any ⟨s.toArray⟩ w (by rw [size_mk]; exact hs)) (fun C => rep_str.2 rfl) h
theorem a_csVerify (s : List UInt8) (hs : s.length ≤ 1000000000) (h : Hp) : ACall Tryz.prog GT 64 [.str s] h fun v h' => v = .tup [.str (Crc.ver s).1, .int .i64 (Crc.ver s).2] ∧ h' = h :=
  acall_imp (args1 r_str) (fun w hg => verify_any ⟨s.toArray⟩ w (by rw [size_mk]; exact hs)) (fun C => rep_tup.2 ⟨_, rfl, repL_cons.2 ⟨_, _, rfl, rep_str.2 rfl, repL_cons.2 ⟨_, _, rfl, rep_int.2 rfl, repL_nil.2 rfl⟩⟩⟩) h
theorem state0_len (ver : Int) (s : List UInt8) (n : Int) : 4 ≤ (state0 ver s n).length ∧ (state0 ver s n).length ≤ s.length + 64 := by
  have l1 := num_len ver
  have l2 := num_len s.length
  have l3 := num_len n
  have l4 := num_len 0
  have l5 : (Wire.strE s).length = (Wire.num s.length).length + s.length := by unfold Wire.strE; rw [List.length_append]
  have l6 : magic.length = 4 := rfl
  unfold state0
  split <;> simp only [List.length_append, List.length_nil, l5, l6] <;> omega
theorem a_encode0 (ver : Int) (s : List UInt8) (n : Int) (hs : s.length ≤ 100000) (hv : (s != [] && Str.valid s) = true) (h0 : 0 ≤ n) (h1 : n ≤ 9007199254740992) (hver : ver = 1 ∨ ver = 2) (h : Hp) :
    ACall Tryz.prog GT 61 [.agg [.str s, .int .i64 n, .sl 0 .nil [], .sl 0 .nil [], .sl 0 .nil []], .int .i64 ver] h fun r h' => r = .tup [.str (Crc.app (state0 ver s n)), .int .i64 0] ∧ h' = h := by
  refine pcall ?_ rfl (by simp [A.pure, A.data]) h
  refine acall_of mixedT h_encode (by simp [c_encode]) ?_
  dsimp only [c_encode]
  have hl := state0_len ver s n
  have hg : ¬ ((state0 ver s n).length : Int) > 1048572 := by omega
  have hne : state0 ver s n ≠ [] := by intro e; rw [e] at hl; simp at hl
  (refine AX.go0 True.intro ?_)
  (refine AX.gc0 True.intro ?_)
  refine (a_scheck0 s n (by omega) hv h0 h1 _).args ?_ |>.mono ?_
  · exact ⟨⟨rfl, rfl, ⟨rfl, .inr rfl, .inl rfl⟩, ⟨rfl, .inr rfl, .inl rfl⟩, ⟨rfl, .inr rfl, .inl rfl⟩, trivial⟩, trivial⟩
  rintro v h' ⟨rfl, rfl⟩
  (refine AX.go0 True.intro ?_)
  (refine AX.gc0 True.intro ?_)
  refine (a_wstate0 (i := 1) (ver := ver) (.inr ⟨rfl, rfl⟩) s n (by omega) (by omega) (by omega) hver).mono ?_
  intro v h2 p2
  (refine AX.go0 True.intro ?_)
  (refine AX.gc0 True.intro ?_)
  refine (a_wlen p2.1).mono ?_
  rintro v h' ⟨rfl, rfl⟩
  (refine AX.go0 hg ?_)
  (refine AX.gc0 True.intro ?_)
  refine (a_wstring p2.1 hne).mono ?_
  rintro v h' ⟨rfl, rfl⟩
  (refine AX.go0 True.intro ?_)
  (refine AX.gc0 True.intro ?_)
  refine (a_csAppend _ (by omega) _).mono ?_
  rintro v h' ⟨rfl, rfl⟩
  (refine AX.go0 True.intro ?_)
  exact ⟨_, le_refl _, rfl⟩
theorem a_Encode0 (s : List UInt8) (n : Int) (hs : s.length ≤ 100000) (hv : (s != [] && Str.valid s) = true) (h0 : 0 ≤ n) (h1 : n ≤ 9007199254740992) (h : Hp) :
    ACall Tryz.prog GT 15 [.agg [.str s, .int .i64 n, .sl 0 .nil [], .sl 0 .nil [], .sl 0 .nil []]] h fun r h' => r = .tup [.str (Crc.app (state0 2 s n)), .int .i64 0] ∧ h' = h := by
  refine pcall ?_ rfl (by simp [A.pure, A.data]) h
  refine acall_of mixedT h_Encode (by simp [c_Encode]) ?_
  dsimp only [c_Encode]
  (refine AX.go0 True.intro ?_)
  (refine AX.gc0 True.intro ?_)
  refine (a_encode0 2 s n hs hv h0 h1 (.inr rfl) _).mono ?_
  rintro v h' ⟨rfl, rfl⟩
  (refine AX.go0 True.intro ?_)
  exact ⟨_, le_refl _, rfl⟩
theorem a_EncodeOld0 (s : List UInt8) (n : Int) (hs : s.length ≤ 100000) (hv : (s != [] && Str.valid s) = true) (h0 : 0 ≤ n) (h1 : n ≤ 9007199254740992) (h : Hp) :
    ACall Tryz.prog GT 17 [.agg [.str s, .int .i64 n, .sl 0 .nil [], .sl 0 .nil [], .sl 0 .nil []]] h fun r h' => r = .tup [.str (Crc.app (state0 1 s n)), .int .i64 0] ∧ h' = h := by
  refine pcall ?_ rfl (by simp [A.pure, A.data]) h
  refine acall_of mixedT h_EncodeOld (by simp [c_EncodeOld]) ?_
  dsimp only [c_EncodeOld]
  (refine AX.go0 True.intro ?_)
  (refine AX.gc0 True.intro ?_)
  refine (a_encode0 1 s n hs hv h0 h1 (.inl rfl) _).mono ?_
  rintro v h' ⟨rfl, rfl⟩
  (refine AX.go0 True.intro ?_)
  exact ⟨_, le_refl _, rfl⟩
def stE : A := .agg [.str [], .int .i64 0, .sl 0 .nil [], .sl 0 .nil [], .sl 0 .nil []]
theorem a_Decode_e (h : Hp) : ACall Tryz.prog GT 19 [.str []] h fun r h' => r = .tup [stE, .int .i64 2] ∧ h' = h := by
  refine pcall ?_ rfl (by simp [A.pure, A.data]) h
  refine acall_of mixedT h_Decode (by simp [c_Decode]) ?_
  dsimp only [c_Decode]
  have hg : ¬ ((0 : Nat) : Int) > 1048576 := by decide
  (refine AX.go0 hg ?_)
  (refine AX.gc0 True.intro ?_)
  refine (a_hasPrefix [] magic _).mono ?_
  rintro v h' ⟨rfl, rfl⟩
  (refine AX.go0 (show magic = [80, 86, 83, 84] from rfl) ?_)
  exact ⟨_, le_refl _, rfl⟩
theorem a_Decode_m (h : Hp) : ACall Tryz.prog GT 19 [.str [80, 86, 83, 84]] h fun r h' => r = .tup [stE, .int .i64 20] ∧ h' = h := by
  refine pcall ?_ rfl (by simp [A.pure, A.data]) h
  refine acall_of mixedT h_Decode (by simp [c_Decode]) ?_
  dsimp only [c_Decode]
  have hg : ¬ ((4 : Nat) : Int) > 1048576 := by decide
  have hb : (decide (magic.length ≤ [80, 86, 83, 84].length) && List.take magic.length [80, 86, 83, 84] == magic) = true := by decide
  have hv : Crc.ver [80, 86, 83, 84] = ([], 20) := by decide +kernel
  (refine AX.go0 hg ?_)
  (refine AX.gc0 True.intro ?_)
  refine (a_hasPrefix [80, 86, 83, 84] magic _).mono ?_
  rintro v h' ⟨hv', rfl⟩
  obtain rfl : v = .bool true := hv'.trans (congrArg A.bool (by decide))
  (refine AX.go0 True.intro ?_)
  (refine AX.gc0 True.intro ?_)
  refine (a_csVerify [80, 86, 83, 84] (by decide) _).mono ?_
  rintro v h' ⟨rfl, rfl⟩
  rw [hv]
  (refine AX.go0 True.intro ?_)
  exact ⟨_, le_refl _, rfl⟩
theorem awake32 : Awake := by
  intro h
  refine pcall ?_ rfl (by simp [A.pure, A.data]) h
  refine acall_of mixedT h_awake (by simp [c_awake]) ?_
  dsimp only [c_awake]
  have e2 : Crc.app (state0 2 [97] 1) = [80, 86, 83, 84, 4, 2, 97, 2, 0, 0, 0] ++ (Crc.app (state0 2 [97] 1)).drop 11 := by decide +kernel
  have l2 : (Crc.app (state0 2 [97] 1)).length = 15 := by decide +kernel
  obtain ⟨x2, hx2⟩ : ∃ x, Crc.app (state0 2 [97] 1) = x := ⟨_, rfl⟩
  have v2 : versionS (Crc.app (state0 2 [97] 1)) = (2, 0) := by decide +kernel
  have t2 : (Crc.app (state0 2 [97] 1)).take 11 = [80, 86, 83, 84, 4, 2, 97, 2, 0, 0, 0] := by decide +kernel
  have l1 : (Crc.app (state0 1 [97] 1)).length = 14 := by decide +kernel
  have g1 : ((Crc.app (state0 1 [97] 1)).getD 4 0).toNat = 2 := by decide +kernel
  have v3 : versionS [80, 86, 83, 84, 6] = (0, 21) := by decide +kernel
  have hva : ([97] != [] && Str.valid [97]) = true := by decide +kernel
  obtain ⟨x1, hx1⟩ : ∃ x, Crc.app (state0 1 [97] 1) = x := ⟨_, rfl⟩
  rw [hx2] at v2 t2 l2
  rw [hx1] at l1 g1
  (refine AX.go0 True.intro ?_)
  (refine AX.gc0 True.intro ?_)
  refine (a_Encode0 [97] 1 (by decide) hva (by decide) (by decide) _).mono ?_
  rintro v h' ⟨rfl, rfl⟩
  rw [hx2]
  (refine AX.go0 True.intro ?_)
  (refine AX.gc0 True.intro ?_)
  refine (a_EncodeOld0 [97] 1 (by decide) hva (by decide) (by decide) _).mono ?_
  rintro v h' ⟨rfl, rfl⟩
  rw [hx1]
  (refine AX.go0 True.intro ?_)
  (refine AX.gc0 True.intro ?_)
  refine (a_Decode_e _).mono ?_
  rintro v h' ⟨rfl, rfl⟩
  unfold stE
  (refine AX.go0 True.intro ?_)
  (refine AX.gc0 True.intro ?_)
  refine (a_Decode_m _).mono ?_
  rintro v h' ⟨rfl, rfl⟩
  unfold stE
  (refine AX.go0 True.intro ?_)
  (refine AX.gc0 True.intro ?_)
  refine (a_version x2 (by omega) _).mono ?_
  rintro v h' ⟨rfl, rfl⟩
  rw [v2]
  (refine AX.go0 True.intro ?_)
  (refine AX.gc0 True.intro ?_)
  refine (a_version [80, 86, 83, 84, 6] (by decide) _).mono ?_
  rintro v h' ⟨rfl, rfl⟩
  rw [v3]
  have m2 : ((x2.length : Int) != 15) = false := by rw [l2]; decide
  have m1 : ((x1.length : Int) != 14) = false := by rw [l1]; decide
  have b1 : (x2.take 11 == [80, 86, 83, 84, 4, 2, 97, 2, 0, 0, 0]) = true := by rw [t2]; decide
  have b2 : (((x1.getD 4 0).toNat : Int) == 2) = true := by rw [g1]; decide
  have c1 : (0 : Int) ≤ 11 := by decide
  have c2 : (11 : Int) ≤ (x2.length : Int) := by rw [l2]; decide
  have c3 : (0 : Int) ≤ 4 := by decide
  have c4 : (4 : Int) < (x1.length : Int) := by rw [l1]; decide
  have e11 : (11 : Int).toNat = 11 := rfl
  have e4 : (4 : Int).toNat = 4 := rfl
  (refine AX.go0 (And.intro m1 (And.intro m2 (And.intro b1 (And.intro b2 (And.intro c1 (And.intro c2 (And.intro c3 (And.intro c4 (And.intro e11 e4))))))))) ?_)
  (refine AX.gc0 True.intro ?_)
  refine ((a_AppendValue [] (by simp) (.mk 1 1 [] [] []) ⟨1, 0, by decide +kernel⟩ (by decide +kernel) (by unfold V.lens V.lensS; simp) _).args ?_).mono ?_
  · exact ⟨rfl, ⟨rfl, rfl, rfl, ⟨rfl, .inr rfl, .inl rfl⟩, ⟨rfl, .inr rfl, .inl rfl⟩, trivial⟩, trivial⟩
  rintro v h' ⟨rfl, rfl⟩
  have ev : [] ++ Val.enc (.mk 1 1 [] [] []) = [2, 2] := by decide +kernel
  (refine AX.go0 ev ?_)
  exact ⟨_, le_refl _, rfl⟩
end AX
end Go.Proofs.YtkhhnkceiibmfaaGreatDoor

namespace Go.Proofs.YtkhhnkceiibmfaaGreatDoor
open Go.RowKit
set_option linter.unusedSimpArgs false
set_option linter.unusedVariables false
set_option maxHeartbeats 4000000
namespace Sf
def zero : St := ⟨[], 0, [], [], []⟩
def encode (ver : Int) (st : St) : List UInt8 × Int :=
  if checkZ st ≠ 0 then ([], checkZ st) else if 1048572 < (stE ver st).length then ([], 3) else (Crc.app (stE ver st), 0)
def decode (s : List UInt8) : St × Int :=
  if 1048576 < s.length then (zero, 3)
  else if AX.preB s = false then (zero, 2)
  else if (Crc.ver s).2 ≠ 0 then (zero, 20)
  else if (AX.versionS (Crc.ver s).1).2 ≠ 0 then (zero, (AX.versionS (Crc.ver s).1).2)
  else
    let r := stateS (AX.versionS (Crc.ver s).1).1 ⟨(Wire.numR ⟨(Crc.ver s).1.drop 4, 0⟩).1, false⟩
    if r.1.fails || decide (0 < r.1.r.rest.length) || checkZ r.2 != 0 then (zero, 2) else (r.2, 0)
end Sf
namespace AX
def SCheck (st : Sf.St) : Prop := ∀ h, ACall Tryz.prog GT 24 [st.A] h fun r h' => r = .int .i64 (Sf.checkZ st) ∧ h' = h
theorem w_statei {ver : Int} (hver : ver = 1 ∨ ver = 2) (st : Sf.St) (ok : Sf.StOk st) (hlen : (Sf.stE ver st).length + 20 ≤ 1000000000) {h : Hp} {i : Nat} (hb : h.b[i]? = some (.cells 161 [.nilp, .sl 0 .nil [], .int .i64 ver])) :
    ACall Tryz.prog GT 112 [.ptr i 0, st.A] h fun u h' => u = .tup [] ∧ h' = ⟨h.b.set i (wtr ver (Sf.stE ver st)), h.t⟩ := by
  refine (ACall.lift1 (w_state hver st ok hlen) rfl (by intros; rfl) ?_ hb).mono ?_
  · rintro u b' ⟨rfl, rfl⟩
    exact ⟨rfl, wtr_loc _ _⟩
  · rintro u h' ⟨b', ⟨rfl, rfl⟩, rfl⟩
    exact ⟨rfl, rfl⟩
theorem stE_ne (ver : Int) (st : Sf.St) : Sf.stE ver st ≠ [] := by
  unfold Sf.stE Sf.magic
  simp
theorem a_encode {ver : Int} (hver : ver = 1 ∨ ver = 2) (st : Sf.St) (hck : SCheck st) (hok : Sf.checkZ st = 0 → Sf.StOk st ∧ (Sf.stE ver st).length + 20 ≤ 1000000000) (h : Hp) :
    ACall Tryz.prog GT 61 [st.A, .int .i64 ver] h fun r h' => r = .tup [.str (Sf.encode ver st).1, .int .i64 (Sf.encode ver st).2] ∧ h' = h := by
  refine pcall ?_ rfl (by simp [A.pure, A.data, Sf.St.A]) h
  refine acall_of mixedT h_encode (by simp [c_encode]) ?_
  dsimp only [c_encode]
  have hw := fun h hb hz => w_statei hver st (hok hz).1 (hok hz).2 (h := h) (i := 1) hb
  have hE : Sf.encode ver st = if Sf.checkZ st ≠ 0 then ([], Sf.checkZ st) else if 1048572 < (Sf.stE ver st).length then ([], 3) else (Crc.app (Sf.stE ver st), 0) := rfl
  unfold SCheck at hck
  unfold Sf.St.A at hck hw ⊢
  by_cases hz : Sf.checkZ st = 0
  · have e1 : (Sf.checkZ st != 0) = false := by simp [hz]
    rw [if_neg (by simp [hz])] at hE
    (refine AX.run0 True.intro ?_)
    refine use (hck _) ?_
    (refine AX.run0 e1 ?_)
    refine use (hw _ rfl hz) ?_
    (refine AX.run0 True.intro ?_)
    refine use (a_wlen (i := 1) (ver := ver) (l := Sf.stE ver st) (.inl rfl)) ?_
    by_cases hl : ((Sf.stE ver st).length : Int) > 1048572
    · rw [if_pos (by omega)] at hE
      (refine AX.run0 hl ?_)
      exact ⟨_, le_refl _, by rw [hE]; rfl⟩
    · rw [if_neg (by omega)] at hE
      (refine AX.run0 hl ?_)
      refine use (a_wstring (i := 1) (ver := ver) (l := Sf.stE ver st) (.inl rfl) (stE_ne _ _)) ?_
      (refine AX.run0 True.intro ?_)
      refine use (a_csAppend _ (by omega) _) ?_
      (refine AX.run0 True.intro ?_)
      exact ⟨_, le_refl _, by rw [hE]; rfl⟩
  · have e1 : (Sf.checkZ st != 0) = true := by simp [hz]
    rw [if_pos hz] at hE
    (refine AX.run0 True.intro ?_)
    refine use (hck _) ?_
    (refine AX.run0 e1 ?_)
    exact ⟨_, le_refl _, by rw [hE]; rfl⟩
theorem a_Encode (st : Sf.St) (hck : SCheck st) (hok : Sf.checkZ st = 0 → Sf.StOk st ∧ (Sf.stE 2 st).length + 20 ≤ 1000000000) (h : Hp) :
    ACall Tryz.prog GT 15 [st.A] h fun r h' => r = .tup [.str (Sf.encode 2 st).1, .int .i64 (Sf.encode 2 st).2] ∧ h' = h := by
  refine pcall ?_ rfl (by simp [A.pure, A.data, Sf.St.A]) h
  refine acall_of mixedT h_Encode (by simp [c_Encode]) ?_
  dsimp only [c_Encode]
  have he := fun h => a_encode (.inr rfl) st hck hok h
  unfold Sf.St.A at he ⊢
  (refine AX.run0 True.intro ?_)
  refine use (he _) ?_
  (refine AX.run0 True.intro ?_)
  exact ⟨_, le_refl _, rfl⟩
theorem a_EncodeOld (st : Sf.St) (hck : SCheck st) (hok : Sf.checkZ st = 0 → Sf.StOk st ∧ (Sf.stE 1 st).length + 20 ≤ 1000000000) (h : Hp) :
    ACall Tryz.prog GT 17 [st.A] h fun r h' => r = .tup [.str (Sf.encode 1 st).1, .int .i64 (Sf.encode 1 st).2] ∧ h' = h := by
  refine pcall ?_ rfl (by simp [A.pure, A.data, Sf.St.A]) h
  refine acall_of mixedT h_EncodeOld (by simp [c_EncodeOld]) ?_
  dsimp only [c_EncodeOld]
  have he := fun h => a_encode (.inl rfl) st hck hok h
  unfold Sf.St.A at he ⊢
  (refine AX.run0 True.intro ?_)
  refine use (he _) ?_
  (refine AX.run0 True.intro ?_)
  exact ⟨_, le_refl _, rfl⟩
/-- In Decode the reader lies behind its bytes' reader. -/
theorem liftD {P : Program} {G : World → Prop} {f : FuncId} {args : List A} {ver : Int} {s s' : Sf.Rs} {v : A} (hc : ACall P G f (.ptr 0 0 :: args) ⟨[RB ver s.bad, rdr s.r], []⟩ fun v' h' => v' = v ∧ h' = ⟨[RB ver s'.bad, rdr s'.r], []⟩) (ha : A.locL 0 args = true) (hv : v.loc 0 = true) (z : Blk) (l : List Blk) (t : List (TypeId × Nat × Nat)) :
    ACall P G f (.ptr 2 0 :: args) ⟨z :: rdr s.r :: RB ver s.bad :: l, t⟩ fun v' h' => v' = v ∧ h' = ⟨z :: rdr s'.r :: RB ver s'.bad :: l, t⟩ := by
  have key := ACall.lift hc (fun i => if i = 0 then 2 else i) (fun a b ha hb e => by
      simp only [List.length_cons, List.length_nil] at ha hb
      have h1 : a = 0 ∨ a = 1 := by omega
      have h2 : b = 0 ∨ b = 1 := by omega
      rcases h1 with rfl | rfl <;> rcases h2 with rfl | rfl <;> simp at e ⊢) (by unfold A.locL; rw [(A.locL0 _ args ha).1]; rfl)
    (fun x hx => by
      rcases List.mem_cons.1 hx with rfl | hx
      · rfl
      · rw [List.mem_singleton.1 hx]; rfl)
    (fun v' h' ⟨e, h0⟩ => ⟨by rw [e]; exact (A.loc0 _ v hv).1, fun j x hj hx => by
      have : j = 0 ∨ j = 1 := by simp only [List.length_cons, List.length_nil] at hj; omega
      rw [h0] at hx
      rcases this with rfl | rfl
      · simp only [List.getElem?_cons_zero] at hx; injection hx with hx; subst hx; rfl
      · simp only [List.getElem?_cons_zero, List.getElem?_cons_succ] at hx; injection hx with hx; subst hx; rfl⟩)
    (h := ⟨z :: rdr s.r :: RB ver s.bad :: l, t⟩) (fun j hj => by
      have : j = 0 ∨ j = 1 := by simp only [List.length_cons, List.length_nil] at hj; omega
      rcases this with rfl | rfl <;> rfl)
  have e : A.renL (fun i => if i = 0 then 2 else i) (.ptr 0 0 :: args) = .ptr 2 0 :: args := by unfold A.renL; rw [(A.locL0 0 args ha).2]; rfl
  rw [e] at key
  refine key.mono ?_
  rintro v' h' ⟨v0, h0, ⟨rfl, rfl⟩, rfl, rfl⟩
  exact ⟨(A.loc0 0 _ hv).2 _, rfl⟩
theorem versionS_12 {s : List UInt8} (h : (versionS s).2 = 0) : (versionS s).1 = 1 ∨ (versionS s).1 = 2 := by
  unfold versionS at h ⊢
  split at h
  · cases h
  · rename_i h1
    rw [if_neg h1]
    dsimp only at h ⊢
    split at h
    · cases h
    · rename_i h2
      rw [if_neg h2]
      split at h
      · cases h
      · rename_i h3
        rw [if_neg h3]
        dsimp only
        omega
theorem a_Decode (s : List UInt8) (hlen : s.length ≤ 1000000000) (hvl : (Crc.ver s).1.length ≤ s.length) (hck : ∀ ver r, r.rest.length ≤ s.length → SCheck (Sf.stateS ver ⟨r, false⟩).2) (h : Hp) :
    ACall Tryz.prog GT 19 [.str s] h fun r h' => r = .tup [(Sf.decode s).1.A, .int .i64 (Sf.decode s).2] ∧ h' = h := by
  refine pcall ?_ rfl (by simp [A.pure, A.data]) h
  refine acall_of mixedT h_Decode (by simp [c_Decode]) ?_
  dsimp only [c_Decode]
  obtain ⟨D, hD⟩ : ∃ D, Sf.decode s = D := ⟨_, rfl⟩
  rw [hD]
  unfold Sf.decode at hD
  have hzA : Sf.zero.A = .agg [.str [], .int .i64 0, .sl 13 .no [], .sl 3 .no [], .sl 7 .no []] := rfl
  have hz : ∀ e : Int, le (.tup [.agg [.str [], .int .i64 0, .sl 0 .nil [], .sl 0 .nil [], .sl 0 .nil []], .int .i64 e]) (.tup [Sf.zero.A, .int .i64 e]) := fun e => ⟨⟨le1_refl _, le1_refl _, ⟨rfl, .inr rfl, .inl rfl⟩, ⟨rfl, .inr rfl, .inl rfl⟩, ⟨rfl, .inr rfl, .inl rfl⟩, trivial⟩, rfl, trivial⟩
  by_cases hl : (s.length : Int) > 1048576
  · rw [if_pos (by omega)] at hD
    (refine AX.run0 hl ?_)
    exact ⟨_, hz _, by subst hD; rfl⟩
  rw [if_neg (by omega)] at hD
  (refine AX.run0 hl ?_)
  refine use (a_hasPrefix s magic _) ?_
  by_cases hp : preB s = false
  · rw [if_pos hp] at hD
    unfold preB at hp
    (refine AX.run0 hp ?_)
    exact ⟨_, hz _, by subst hD; rfl⟩
  rw [if_neg hp] at hD
  have hp' : (decide (magic.length ≤ s.length) && s.take magic.length == magic) = true := by unfold preB at hp; simpa using hp
  (refine AX.run0 hp' ?_)
  refine use (a_csVerify s hlen _) ?_
  obtain ⟨⟨b, e⟩, hv⟩ : ∃ q, Crc.ver s = q := ⟨_, rfl⟩
  rw [hv] at hD hvl ⊢
  dsimp only at hD hvl ⊢
  by_cases he : e = 0
  rotate_left
  · have e1 : (e != 0) = true := by simp [he]
    rw [if_pos he] at hD
    (refine AX.run0 e1 ?_)
    exact ⟨_, hz _, by subst hD; rfl⟩
  have e1 : (e != 0) = false := by simp [he]
  rw [if_neg (by simp [he])] at hD
  (refine AX.run0 e1 ?_)
  refine use (a_version b (by omega) _) ?_
  have h12 := @versionS_12 b
  obtain ⟨⟨n, e2⟩, hn⟩ : ∃ q, versionS b = q := ⟨_, rfl⟩
  rw [hn] at hD h12 ⊢
  dsimp only at hD h12 ⊢
  by_cases he2 : e2 = 0
  rotate_left
  · have e3 : (e2 != 0) = true := by simp [he2]
    rw [if_pos he2] at hD
    (refine AX.run0 e3 ?_)
    exact ⟨_, hz _, by subst hD; rfl⟩
  have e3 : (e2 != 0) = false := by simp [he2]
  rw [if_neg (by simp [he2])] at hD
  have hb4 : 4 ≤ b.length := by
    have hp4 : preB b = true := by
      rcases bool_or (preB b) with h1 | h1
      · first | exact h1 | (exfalso; unfold versionS at hn; rw [if_pos h1] at hn; injection hn with _ hn; omega)
      · first | exact h1 | (exfalso; unfold versionS at hn; rw [if_pos h1] at hn; injection hn with _ hn; omega)
    unfold preB at hp4
    have hml : magic.length = 4 := rfl
    simp only [Bool.and_eq_true, decide_eq_true_eq, hml] at hp4
    exact hp4.1
  have hb5 : (4 : Int) ≤ (b.length : Int) := by omega
  (refine AX.run0 (And.intro e3 hb5) ?_)
  refine use (a_newReader (b.drop 4) _) ?_
  (refine AX.run0 True.intro ?_)
  refine use (a_number (i := 1) (r := ⟨b.drop 4, 0⟩) rfl (by rw [List.length_drop]; omega)) ?_
  have hql := Wire.numR_rest ⟨b.drop 4, 0⟩
  obtain ⟨⟨q, qn⟩, hq⟩ : ∃ x, Wire.numR ⟨b.drop 4, 0⟩ = x := ⟨_, rfl⟩
  rw [hq] at hD hql ⊢
  dsimp only at hD hql ⊢
  rw [List.length_drop] at hql
  have cs := liftD (a_rstate (h12 he2) ⟨q, false⟩ (by dsimp only; omega) [] []) rfl rfl (.cells 26 [.str [], .int .i64 0, .sl 0 .nil [], .sl 0 .nil [], .sl 0 .nil []]) [] []
  have hc := hck n q (by omega)
  obtain ⟨⟨⟨r, bad⟩, st⟩, hs⟩ : ∃ x, Sf.stateS n ⟨q, false⟩ = x := ⟨_, rfl⟩
  rw [hs] at cs hc hD
  unfold SCheck at hc
  unfold Sf.St.A at cs hc
  unfold RB at cs
  dsimp only at cs hc hD
  have cf := liftD (a_rfails (ver := n) ⟨r, bad⟩ [] []) rfl rfl (.cells 26 [.str [], .int .i64 0, .sl 0 .nil [], .sl 0 .nil [], .sl 0 .nil []]) [.cells 26 [.str st.lin, .int .i64 st.ser, .sl 13 .no (st.insts.map Sf.Inst.cells), .sl 3 .no (st.pends.map Sf.Pend.cells), .sl 7 .no (st.outs.map Sf.Outp.cells)]] []
  unfold RB at cf
  dsimp only at cf
  (refine AX.run0 True.intro ?_)
  refine use cs ?_
  (refine AX.run0 True.intro ?_)
  refine use cf ?_
  obtain ⟨F, hF⟩ : ∃ F, (⟨r, bad⟩ : Sf.Rs).fails = F := ⟨_, rfl⟩
  rw [hF] at hD ⊢
  cases F
  rotate_left
  · rw [if_pos (by simp only [Bool.true_or])] at hD
    (refine AX.run0 True.intro ?_)
    exact ⟨_, hz _, by subst hD; rfl⟩
  simp only [Bool.false_or] at hD
  (refine AX.run0 True.intro ?_)
  refine use (a_left (i := 1) (r := r) rfl) ?_
  by_cases hL : (r.rest.length : Int) > 0
  · rw [decide_eq_true (show 0 < r.rest.length by omega), if_pos (by simp only [Bool.true_or])] at hD
    (refine AX.run0 hL ?_)
    exact ⟨_, hz _, by subst hD; rfl⟩
  have hL2 : decide (0 < r.rest.length) = false := decide_eq_false (by omega)
  simp only [hL2, Bool.false_or] at hD
  (refine AX.run0 hL ?_)
  refine use (hc _) ?_
  by_cases hk : Sf.checkZ st = 0
  · have e4 : (Sf.checkZ st != 0) = false := by simp [hk]
    rw [if_neg (by simp [e4])] at hD
    (refine AX.run0 e4 ?_)
    exact ⟨_, le_refl _, by subst hD; rfl⟩
  · have e4 : (Sf.checkZ st != 0) = true := by simp [hk]
    rw [if_pos e4] at hD
    (refine AX.run0 e4 ?_)
    exact ⟨_, hz _, by subst hD; rfl⟩
end AX
end Go.Proofs.YtkhhnkceiibmfaaGreatDoor

namespace Go.Proofs.YtkhhnkceiibmfaaGreatDoor
open Go.RowKit
open Go.Op (bytesLess)
set_option linter.unusedSimpArgs false
set_option linter.unusedVariables false
set_option maxHeartbeats 4000000
namespace Adr
def Step.cells (s : Step) : List AX.A := [.str s.name, .int .i64 s.key.kind, .int .i64 s.key.num, .str s.key.str]
def Ad.cells (a : Ad) : List AX.A := [.sl 4 .no (a.mods.map Step.cells), .bool a.data, .str a.type, .str a.name, .int .i64 a.key.kind, .int .i64 a.key.num, .str a.key.str]
end Adr
namespace AX
def cmpZ (a b : List UInt8) : Int := if a == b then 0 else if bytesLess a b then -1 else 1
/-- What address and number answer. -/
structure Leafs : Prop where
  parse : ∀ (s : List UInt8), s.length ≤ 2000000 → ∀ h, ACall Tryz.prog GT 150 [.str s] h fun r h' => r = .tup [.agg (Adr.parse s).1.cells, .int .i64 (Adr.parse s).2] ∧ h' = h
  static : ∀ (s : List UInt8), s.length ≤ 2000000 → ∀ h, ACall Tryz.prog GT 194 [.str s] h fun r h' => r = .tup [.str (Adr.static s).1, .int .i64 (Adr.static s).2] ∧ h' = h
  ident : ∀ (s : List UInt8), s.length ≤ 2000000 → ∀ h, ACall Tryz.prog GT 106 [.str s] h fun r h' => r = .bool (Adr.ident s) ∧ h' = h
  num : ∀ (s : List UInt8), s.length ≤ 2000000 → ∀ h, ACall Tryz.prog GT 191 [.str s] h fun r h' => r = .tup [.int .i64 (Num.parse s).1, .int .i64 (Num.parse s).2] ∧ h' = h
  cmp : ∀ (a b : List UInt8) h, ACall Tryz.prog GT 149 [.str a, .str b] h fun r h' => r = .int .i64 (cmpZ a b) ∧ h' = h
  known : ∀ (v : V), v.lens → ∀ h, ACall Tryz.prog GT 146 [v.A] h fun r h' => r = .bool (Sf.known v) ∧ h' = h
  text : ∀ (s : List UInt8), s.length ≤ 2000000 → ∀ h, ACall Tryz.prog GT 76 [.str s] h fun r h' => r = .bool (Sf.text s) ∧ h' = h
def c_smanaged : AX.AFn := ⟨25, .seq (.reg false [⟨some 4, .mv (.c (.bool false)), none, []⟩]) (.seq (.reg false [⟨some 8, .mv (.t 0), none, []⟩, ⟨some 9, .call 150 [.t 8], none, []⟩, ⟨some 7, .mv (.t 9), none, []⟩, ⟨some 10, .extract (.t 7) 0, none, []⟩, ⟨some 11, .extract (.t 7) 1, none, []⟩, ⟨some 5, .alloc 204 [.sl 0 .nil [], .bool false, .str [], .str [], .int .i64 0, .int .i64 0, .str []], none, []⟩, ⟨none, .store 7 (.t 5) (.t 10), none, []⟩, ⟨some 6, .mv (.t 11), none, []⟩]) (.seq (.reg false [⟨some 12, .mv (.t 6), none, []⟩, ⟨some 13, .bin .eql (.t 12) (.c (.int .i64 0)), none, []⟩, ⟨some 14, .mv (.t 13), none, []⟩, ⟨some 15, .faddr 1 (.t 5), some (14, true), []⟩, ⟨some 16, .load false 1 (.t 15), some (14, true), []⟩, ⟨some 17, .un .not (.t 16), some (14, true), []⟩, ⟨some 18, .pick (.t 14) (.t 17) (.c (.bool false)), none, []⟩, ⟨some 19, .mv (.t 18), none, []⟩, ⟨some 20, .faddr 2 (.t 5), some (19, true), []⟩, ⟨some 21, .load false 1 (.t 20), some (19, true), []⟩, ⟨some 22, .mv (.t 1), some (19, true), []⟩, ⟨some 23, .bin .eql (.t 21) (.t 22), some (19, true), []⟩, ⟨some 24, .pick (.t 19) (.t 23) (.c (.bool false)), none, []⟩, ⟨some 4, .mv (.t 24), none, []⟩]) (.ret))), [.t 4]⟩
theorem h_smanaged : AX.compFn Tryz.prog 80 = some c_smanaged := by kernel_rfl
def c_skey : AX.AFn := ⟨16, .seq (.reg false [⟨some 2, .mv (.c (.bool false)), none, []⟩]) (.seq (.reg false [⟨some 6, .mv (.t 0), none, []⟩, ⟨some 7, .call 191 [.t 6], none, []⟩, ⟨some 5, .mv (.t 7), none, []⟩, ⟨some 8, .extract (.t 5) 0, none, []⟩, ⟨some 9, .extract (.t 5) 1, none, []⟩, ⟨some 3, .mv (.t 8), none, []⟩, ⟨some 4, .mv (.t 9), none, []⟩]) (.seq (.reg false [⟨some 10, .mv (.t 4), none, []⟩, ⟨some 11, .bin .eql (.t 10) (.c (.int .i64 0)), none, []⟩, ⟨some 12, .mv (.t 11), none, []⟩, ⟨some 13, .mv (.t 3), some (12, true), []⟩, ⟨some 14, .bin .geq (.t 13) (.c (.int .i64 1)), some (12, true), []⟩, ⟨some 15, .pick (.t 12) (.t 14) (.c (.bool false)), none, []⟩, ⟨some 2, .mv (.t 15), none, []⟩]) (.ret))), [.t 2]⟩
theorem h_skey : AX.compFn Tryz.prog 145 = some c_skey := by kernel_rfl
def c_splaceOf : AX.AFn := ⟨8, .seq (.reg false [⟨some 1, .box 46 (.t 0), none, []⟩, ⟨some 2, .alloc 126 [.str [], .str []], none, []⟩]) (.seq (.reg false [⟨some 3, .faddr 0 (.t 1), none, []⟩, ⟨some 4, .load false 1 (.t 3), none, []⟩, ⟨some 5, .faddr 1 (.t 1), none, []⟩, ⟨some 6, .load false 1 (.t 5), none, []⟩, ⟨some 7, .build [.str [], .str []] [(0, 1, .t 4), (1, 1, .t 6)], none, []⟩, ⟨none, .store 2 (.t 2) (.t 7), none, []⟩]) (.ret)), [.c 2 true 2]⟩
theorem h_splaceOf : AX.compFn Tryz.prog 78 = some c_splaceOf := by kernel_rfl
def c_sstatics : AX.AFn := ⟨40, .seq (.reg false [⟨some 2, .mv (.c (.bool false)), none, []⟩]) (.seq (.seq (.reg false [⟨some 7, .mv (.t 0), none, []⟩, ⟨some 8, .len false (.t 7), none, []⟩, ⟨some 9, .mv (.c (.int .i64 0)), none, []⟩]) (.block 0 (.loop (.seq (.reg false [⟨some 10, .bin .lss (.t 9) (.t 8), none, []⟩]) (.seq (.cond (.t 10) (.skip) (.exit 0)) (.seq (.block 1 (.seq (.reg false [⟨some 11, .mv (.t 9), none, []⟩, ⟨some 12, .iaddr 1 (.t 7) (.t 9), none, []⟩, ⟨some 13, .load false 1 (.t 12), none, []⟩, ⟨some 3, .mv (.t 11), none, []⟩, ⟨some 4, .mv (.t 13), none, []⟩]) (.seq (.reg false [⟨some 15, .mv (.t 4), none, []⟩, ⟨some 16, .call 194 [.t 15], none, []⟩, ⟨some 14, .mv (.t 16), none, []⟩, ⟨some 17, .extract (.t 14) 0, none, []⟩, ⟨some 18, .extract (.t 14) 1, none, []⟩, ⟨some 5, .mv (.t 17), none, []⟩, ⟨some 6, .mv (.t 18), none, []⟩]) (.seq (.reg false [⟨some 19, .mv (.t 6), none, []⟩, ⟨some 20, .bin .neq (.t 19) (.c (.int .i64 0)), none, []⟩, ⟨some 21, .mv (.t 20), none, []⟩, ⟨some 22, .mv (.t 5), some (21, false), []⟩, ⟨some 23, .mv (.t 4), some (21, false), []⟩, ⟨some 24, .bin .neq (.t 22) (.t 23), some (21, false), []⟩, ⟨some 25, .pick (.t 21) (.c (.bool true)) (.t 24), none, []⟩, ⟨some 26, .mv (.t 25), none, []⟩, ⟨some 27, .mv (.t 3), some (26, false), []⟩, ⟨some 28, .bin .gtr (.t 27) (.c (.int .i64 0)), some (26, false), []⟩, ⟨some 29, .mv (.t 28), some (26, false), []⟩, ⟨some 30, .mv (.t 4), some (29, true), []⟩, ⟨some 31, .mv (.t 0), some (29, true), []⟩, ⟨some 32, .mv (.t 3), some (29, true), []⟩, ⟨some 33, .bin .sub (.t 32) (.c (.int .i64 1)), some (29, true), []⟩, ⟨some 34, .iaddr 1 (.t 31) (.t 33), some (29, true), []⟩, ⟨some 35, .load false 1 (.t 34), some (29, true), []⟩, ⟨some 36, .bin .leq (.t 30) (.t 35), some (29, true), []⟩, ⟨some 37, .pick (.t 29) (.t 36) (.c (.bool false)), some (26, false), []⟩, ⟨some 38, .pick (.t 26) (.c (.bool true)) (.t 37), none, []⟩]) (.cond (.t 38) (.seq (.reg false [⟨some 2, .mv (.c (.bool false)), none, []⟩]) (.ret)) (.skip)))))) (.reg false [⟨some 39, .bin .add (.t 9) (.c (.int .i64 1)), none, []⟩, ⟨some 9, .mv (.t 39), none, []⟩]))))))) (.seq (.reg false [⟨some 2, .mv (.c (.bool true)), none, []⟩]) (.ret))), [.t 2]⟩
theorem h_sstatics : AX.compFn Tryz.prog 147 = some c_sstatics := by kernel_rfl
def c_soutput : AX.AFn := ⟨18, .seq (.reg false [⟨some 1, .box 123 (.t 0), none, []⟩, ⟨some 2, .mv (.c (.int .i64 0)), none, []⟩]) (.seq (.seq (.reg false [⟨some 4, .faddr 0 (.t 1), none, []⟩, ⟨some 5, .load false 1 (.t 4), none, []⟩, ⟨some 6, .call 106 [.t 5], none, []⟩, ⟨some 7, .un .not (.t 6), none, []⟩]) (.cond (.t 7) (.seq (.reg false [⟨some 2, .mv (.c (.int .i64 7)), none, []⟩]) (.ret)) (.skip))) (.seq (.seq (.reg false [⟨some 8, .faddr 1 (.t 1), none, []⟩, ⟨some 9, .load true 5 (.t 8), none, []⟩, ⟨some 10, .call 104 [.t 9], none, []⟩, ⟨some 3, .mv (.t 10), none, []⟩]) (.seq (.reg false [⟨some 11, .mv (.t 3), none, []⟩, ⟨some 12, .bin .neq (.t 11) (.c (.int .i64 0)), none, []⟩]) (.cond (.t 12) (.seq (.reg false [⟨some 13, .mv (.t 3), none, []⟩, ⟨some 2, .mv (.t 13), none, []⟩]) (.ret)) (.skip)))) (.seq (.seq (.reg false [⟨some 14, .faddr 1 (.t 1), none, []⟩, ⟨some 15, .load true 5 (.t 14), none, []⟩, ⟨some 16, .call 146 [.t 15], none, []⟩, ⟨some 17, .un .not (.t 16), none, []⟩]) (.cond (.t 17) (.seq (.reg false [⟨some 2, .mv (.c (.int .i64 11)), none, []⟩]) (.ret)) (.skip))) (.seq (.reg false [⟨some 2, .mv (.c (.int .i64 0)), none, []⟩]) (.ret))))), [.t 2]⟩
theorem h_soutput : AX.compFn Tryz.prog 81 = some c_soutput := by kernel_rfl
def c_sinstance : AX.AFn := ⟨53, .seq (.reg false [⟨some 1, .box 46 (.t 0), none, []⟩, ⟨some 2, .mv (.c (.int .i64 0)), none, []⟩]) (.seq (.seq (.reg false [⟨some 4, .faddr 0 (.t 1), none, []⟩, ⟨some 5, .load false 1 (.t 4), none, []⟩, ⟨some 6, .faddr 3 (.t 1), none, []⟩, ⟨some 7, .load false 1 (.t 6), none, []⟩, ⟨some 8, .call 80 [.t 5, .t 7], none, []⟩, ⟨some 9, .un .not (.t 8), none, []⟩, ⟨some 10, .mv (.t 9), none, []⟩, ⟨some 11, .faddr 1 (.t 1), some (10, false), []⟩, ⟨some 12, .load false 1 (.t 11), some (10, false), []⟩, ⟨some 13, .bin .neq (.t 12) (.c (.str [])), some (10, false), []⟩, ⟨some 14, .mv (.t 13), some (10, false), []⟩, ⟨some 15, .faddr 1 (.t 1), some (14, true), []⟩, ⟨some 16, .load false 1 (.t 15), some (14, true), []⟩, ⟨some 17, .call 145 [.t 16], some (14, true), []⟩, ⟨some 18, .un .not (.t 17), some (14, true), []⟩, ⟨some 19, .pick (.t 14) (.t 18) (.c (.bool false)), some (10, false), []⟩, ⟨some 20, .pick (.t 10) (.c (.bool true)) (.t 19), none, []⟩, ⟨some 21, .mv (.t 20), none, []⟩, ⟨some 22, .faddr 2 (.t 1), some (21, false), []⟩, ⟨some 23, .load false 1 (.t 22), some (21, false), []⟩, ⟨some 24, .call 76 [.t 23], some (21, false), []⟩, ⟨some 25, .un .not (.t 24), some (21, false), []⟩, ⟨some 26, .pick (.t 21) (.c (.bool true)) (.t 25), none, []⟩]) (.cond (.t 26) (.seq (.reg false [⟨some 2, .mv (.c (.int .i64 1)), none, []⟩]) (.ret)) (.skip))) (.seq (.seq (.reg false [⟨some 27, .faddr 4 (.t 1), none, []⟩, ⟨some 28, .load true 5 (.t 27), none, []⟩, ⟨some 29, .call 104 [.t 28], none, []⟩, ⟨some 3, .mv (.t 29), none, []⟩]) (.seq (.reg false [⟨some 30, .mv (.t 3), none, []⟩, ⟨some 31, .bin .neq (.t 30) (.c (.int .i64 0)), none, []⟩]) (.cond (.t 31) (.seq (.reg false [⟨some 32, .mv (.t 3), none, []⟩, ⟨some 2, .mv (.t 32), none, []⟩]) (.ret)) (.skip)))) (.seq (.seq (.reg false [⟨some 33, .faddr 4 (.t 1), none, []⟩, ⟨some 34, .faddr 0 (.t 33), none, []⟩, ⟨some 35, .load false 1 (.t 34), none, []⟩, ⟨some 36, .bin .neq (.t 35) (.c (.int .i64 5)), none, []⟩]) (.cond (.t 36) (.seq (.reg false [⟨some 2, .mv (.c (.int .i64 6)), none, []⟩]) (.ret)) (.skip))) (.seq (.seq (.reg false [⟨some 37, .faddr 4 (.t 1), none, []⟩, ⟨some 38, .load true 5 (.t 37), none, []⟩, ⟨some 39, .call 146 [.t 38], none, []⟩, ⟨some 40, .un .not (.t 39), none, []⟩]) (.cond (.t 40) (.seq (.reg false [⟨some 2, .mv (.c (.int .i64 11)), none, []⟩]) (.ret)) (.skip))) (.seq (.seq (.reg false [⟨some 41, .faddr 9 (.t 1), none, []⟩, ⟨some 42, .load false 1 (.t 41), none, []⟩, ⟨some 43, .bin .lss (.t 42) (.c (.int .i64 1)), none, []⟩, ⟨some 44, .mv (.t 43), none, []⟩, ⟨some 45, .faddr 9 (.t 1), some (44, false), []⟩, ⟨some 46, .load false 1 (.t 45), some (44, false), []⟩, ⟨some 47, .bin .gtr (.t 46) (.c (.int .i64 9007199254740992)), some (44, false), []⟩, ⟨some 48, .pick (.t 44) (.c (.bool true)) (.t 47), none, []⟩]) (.cond (.t 48) (.seq (.reg false [⟨some 2, .mv (.c (.int .i64 5)), none, []⟩]) (.ret)) (.skip))) (.seq (.seq (.reg false [⟨some 49, .faddr 12 (.t 1), none, []⟩, ⟨some 50, .load false 1 (.t 49), none, []⟩, ⟨some 51, .call 147 [.t 50], none, []⟩, ⟨some 52, .un .not (.t 51), none, []⟩]) (.cond (.t 52) (.seq (.reg false [⟨some 2, .mv (.c (.int .i64 1)), none, []⟩]) (.ret)) (.skip))) (.seq (.reg false [⟨some 2, .mv (.c (.int .i64 0)), none, []⟩]) (.ret)))))))), [.t 2]⟩
theorem h_sinstance : AX.compFn Tryz.prog 77 = some c_sinstance := by kernel_rfl

theorem a_managed (L : Leafs) (s t : List UInt8) (hs : s.length ≤ 2000000) (h : Hp) : ACall Tryz.prog GT 80 [.str s, .str t] h fun r h' => r = .bool (Sf.managed s t) ∧ h' = h := by
  refine pcall ?_ rfl (by simp [A.pure, A.data]) h
  refine acall_of mixedT h_smanaged (by simp [c_smanaged]) ?_
  dsimp only [c_smanaged]
  have hp := fun h => L.parse s hs h
  unfold Sf.managed
  obtain ⟨⟨⟨mods, data, ty, nm, ⟨kk, kn, ks⟩⟩, e⟩, he⟩ : ∃ x, Adr.parse s = x := ⟨_, rfl⟩
  rw [he] at hp ⊢
  simp only [Adr.Ad.cells] at hp
  (refine AX.run0 True.intro ?_)
  refine use (hp _) ?_
  dsimp only
  rcases bool_or (e == 0) with e0 | e0
  · rw [e0]
    (refine AX.run0 e0 ?_)
    first
    | exact ⟨_, le_refl _, rfl⟩
    | (cases data
       · (refine AX.run0 True.intro ?_)
         exact ⟨_, le_refl _, rfl⟩
       · (refine AX.run0 True.intro ?_)
         exact ⟨_, le_refl _, rfl⟩)
  · rw [e0]
    (refine AX.run0 e0 ?_)
    first
    | exact ⟨_, le_refl _, rfl⟩
    | (cases data
       · (refine AX.run0 True.intro ?_)
         exact ⟨_, le_refl _, rfl⟩
       · (refine AX.run0 True.intro ?_)
         exact ⟨_, le_refl _, rfl⟩)
theorem a_key (L : Leafs) (s : List UInt8) (hs : s.length ≤ 2000000) (h : Hp) : ACall Tryz.prog GT 145 [.str s] h fun r h' => r = .bool ((Num.parse s).2 == 0 && decide (1 ≤ (Num.parse s).1)) ∧ h' = h := by
  refine pcall ?_ rfl (by simp [A.pure, A.data]) h
  refine acall_of mixedT h_skey (by simp [c_skey]) ?_
  dsimp only [c_skey]
  have hp := fun h => L.num s hs h
  obtain ⟨⟨n, e⟩, he⟩ : ∃ x, Num.parse s = x := ⟨_, rfl⟩
  rw [he] at hp ⊢
  dsimp only at hp ⊢
  (refine AX.run0 True.intro ?_)
  refine use (hp _) ?_
  rcases bool_or (e == 0) with e0 | e0
  · rw [e0]
    (refine AX.run0 e0 ?_)
    exact ⟨_, le_refl _, rfl⟩
  · rw [e0]
    (refine AX.run0 e0 ?_)
    exact ⟨_, le_refl _, rfl⟩
theorem a_placeOf (x : Sf.Inst) (h : Hp) : ACall Tryz.prog GT 78 [.agg x.cells] h fun r h' => r = .agg [.str x.addr, .str x.dep] ∧ h' = h := by
  obtain ⟨a, d, id, ty, ⟨k, n, w, vi, vy⟩, v, tn, fi, ds⟩ := x
  refine pcall ?_ rfl (by simp [A.pure, A.data, Sf.Inst.cells]) h
  refine acall_of mixedT h_splaceOf (by simp [c_splaceOf]) ?_
  dsimp only [c_splaceOf, Sf.Inst.cells]
  (refine AX.run0 True.intro ?_)
  exact ⟨_, le_refl _, rfl⟩
theorem a_output (L : Leafs) (o : Sf.Outp) (hs : o.name.length ≤ 2000000) (hl : o.value.lens) (h : Hp) : ACall Tryz.prog GT 81 [.agg o.cells] h fun r h' => r = .int .i64 (Sf.outZ o) ∧ h' = h := by
  have hi := fun h => L.ident o.name hs h
  have hk := fun h => L.known o.value hl h
  have hc := fun h => a_vCheck o.value hl h
  obtain ⟨Z, hZ⟩ : ∃ Z, Sf.outZ o = Z := ⟨_, rfl⟩
  rw [hZ]
  unfold Sf.outZ at hZ
  obtain ⟨m, ⟨k, n, w, vi, vy⟩, b⟩ := o
  dsimp only at hi hk hc hZ
  have hVA : (V.mk k n w vi vy).A = .agg [.int .i64 k, .int .i64 n, .str w, .sl 5 .no (V.cellss vi), .sl 1 .no (strsA vy)] := by simp only [V.A, V.cells]
  rw [hVA] at hk hc
  refine pcall ?_ rfl (by simp [A.pure, A.data, Sf.Outp.cells]) h
  refine acall_of mixedT h_soutput (by simp [c_soutput]) ?_
  dsimp only [c_soutput, Sf.Outp.cells]
  (refine AX.run0 True.intro ?_)
  refine use (hi _) ?_
  cases hI : Adr.ident m
  · rw [hI, if_pos (by decide)] at hZ
    (refine AX.run0 True.intro ?_)
    exact ⟨_, le_refl _, by rw [← hZ]; rfl⟩
  rw [hI, if_neg (by decide)] at hZ
  (refine AX.run0 True.intro ?_)
  refine use (hc _) ?_
  by_cases hz : Val.checkZ (.mk k n w vi vy) = 0
  rotate_left
  · have e1 : (Val.checkZ (.mk k n w vi vy) != 0) = true := by simp [hz]
    rw [if_pos hz] at hZ
    (refine AX.run0 e1 ?_)
    exact ⟨_, le_refl _, by rw [← hZ]; rfl⟩
  have e1 : (Val.checkZ (.mk k n w vi vy) != 0) = false := by simp [hz]
  rw [if_neg (by simp [hz])] at hZ
  (refine AX.run0 e1 ?_)
  refine use (hk _) ?_
  cases hK : Sf.known (.mk k n w vi vy)
  · rw [hK, if_pos (by decide)] at hZ
    (refine AX.run0 True.intro ?_)
    exact ⟨_, le_refl _, by rw [← hZ]; rfl⟩
  · rw [hK, if_neg (by decide)] at hZ
    (refine AX.run0 True.intro ?_)
    exact ⟨_, le_refl _, by rw [← hZ]; rfl⟩
theorem a_statics (L : Leafs) (ds : List (List UInt8)) (hn : ds.length ≤ 1000000000) (hs : ∀ s ∈ ds, s.length ≤ 2000000) (h : Hp) : ACall Tryz.prog GT 147 [.sl 1 .no (strsA ds)] h fun r h' => r = .bool (Sf.depsB none ds) ∧ h' = h := by
  refine pcall ?_ rfl (by simp [A.pure, A.data]) h
  refine acall_of mixedT h_sstatics (by simp [c_sstatics]) ?_
  dsimp only [c_sstatics]
  obtain ⟨D, hD⟩ : ∃ D, Sf.depsB none ds = D := ⟨_, rfl⟩
  rw [hD]
  have lm : (strsA ds).length = ds.length := strsA_length ds
  (refine AX.run0 lm ?_)
  refine awp_loop (fun mm ts h => ∃ (j : Nat), mm = ds.length - j ∧ j ≤ ds.length ∧ h = ⟨[], []⟩ ∧ Sf.depsB (if j = 0 then none else ds[j - 1]?) (ds.drop j) = D ∧ ts 0 = .sl 1 .no (strsA ds) ∧ ts 7 = .sl 1 .no (strsA ds) ∧ ts 8 = .int .i64 (ds.length : Nat) ∧ ts 9 = .int .i64 (j : Nat)) ds.length ?_ ?_
  · exact ⟨0, by omega, by omega, rfl, hD, by (exact AX.ev0 True.intro), by (exact AX.ev0 True.intro), by (exact AX.ev0 lm), by (exact AX.inv0 True.intro)⟩
  rintro mm ts h ⟨j, rfl, hjc, rfl, hit, t0, ta, tb, tc⟩
  by_cases hj : j < ds.length
  · have hlt : (j : Int) < (ds.length : Int) := by omega
    have hlt' : (j : Int) < ((strsA ds).length : Int) := by rw [strsA_length]; exact hlt
    have hj0 : (0 : Int) ≤ (j : Int) := by omega
    have ei : IntKind.i64.wrap ((j : Int) + 1) = ((j + 1 : Nat) : Int) := by rw [wrap64 (by omega) (by omega)]; omega
    have hg := strsA_get ds j hj
    have hst := fun h => L.static ds[j] (hs _ (List.getElem_mem hj)) h
    rw [List.drop_eq_getElem_cons hj] at hit
    unfold Sf.depsB at hit
    have hsB : Sf.staticB ds[j] = ((Adr.static ds[j]).2 == 0 && (Adr.static ds[j]).1 == ds[j]) := rfl
    obtain ⟨⟨w, e⟩, hw⟩ : ∃ q, Adr.static ds[j] = q := ⟨_, rfl⟩
    rw [hw] at hst hsB
    dsimp only at hst hsB
    rw [hsB] at hit
    (refine AX.run0 (And.intro t0 (And.intro ta (And.intro tb (And.intro tc (And.intro hlt (And.intro hg (And.intro hlt' hj0))))))) ?_)
    refine use (hst _) ?_
    by_cases he : e = 0
    rotate_left
    · have e1 : (e != 0) = true := by simp [he]
      have e2 : (e == 0) = false := by simp [he]
      rw [e2, Bool.false_and, Bool.false_and, Bool.false_and] at hit
      subst hit
      (refine AX.run0 (And.intro t0 (And.intro ta (And.intro tb (And.intro tc e1)))) ?_)
      exact ⟨_, le_refl _, rfl⟩
    have e1 : (e != 0) = false := by simp [he]
    have e2 : (e == 0) = true := by simp [he]
    rw [e2, Bool.true_and] at hit
    by_cases hw2 : w = ds[j]
    rotate_left
    · have w1 : (w != ds[j]) = true := by simp [hw2]
      have w2 : (w == ds[j]) = false := by simp [hw2]
      rw [w2, Bool.false_and, Bool.false_and] at hit
      subst hit
      (refine AX.run0 (And.intro t0 (And.intro ta (And.intro tb (And.intro tc (And.intro e1 w1))))) ?_)
      exact ⟨_, le_refl _, rfl⟩
    have w1 : (w != ds[j]) = false := by simp [hw2]
    have w2 : (w == ds[j]) = true := by simp [hw2]
    rw [w2, Bool.true_and] at hit
    cases j with
    | zero =>
      have h0 : ¬ ((0 : Nat) : Int) > 0 := by omega
      simp only [if_true, Val.badB, Bool.not_false, Bool.true_and] at hit
      (refine AX.run0 (And.intro t0 (And.intro ta (And.intro tb (And.intro tc (And.intro e1 (And.intro w1 (And.intro h0 ei))))))) ?_)
      exact ⟨ds.length - 1, by omega, 1, rfl, by omega, rfl, by rw [← hit]; simp [hj], by (exact AX.ev0 t0), by (exact AX.ev0 ta), by (exact AX.ev0 tb), by (exact AX.ev0 ei)⟩
    | succ i =>
      have h0 : ((i + 1 : Nat) : Int) > 0 := by omega
      have ej : IntKind.i64.wrap (((i + 1 : Nat) : Int) - 1) = (i : Int) := by rw [wrap64 (by omega) (by omega)]; omega
      have hg2 := strsA_get ds i (by omega)
      have hi' : (i : Int) < ((strsA ds).length : Int) := by omega
      have hi0 : (0 : Int) ≤ (i : Int) := by omega
      have hki : ds[i + 1 - 1]? = some (ds[i]'(by omega)) := List.getElem?_eq_getElem (by omega)
      rw [if_neg (by omega), hki] at hit
      simp only [Val.badB] at hit
      rw [Val.less_total] at hit
      rcases bool_or (bytesLess ds[i + 1] ds[i] || ds[i + 1] == ds[i]) with hb | hb
      · rw [hb] at hit
        (refine AX.run0 (And.intro t0 (And.intro ta (And.intro tb (And.intro tc (And.intro e1 (And.intro w1 (And.intro h0 (And.intro ej (And.intro hg2 (And.intro hi' (And.intro hi0 (And.intro hb ei)))))))))))) ?_)
        first
        | (subst hit; exact ⟨_, le_refl _, rfl⟩)
        | exact ⟨ds.length - (i + 1 + 1), by omega, i + 1 + 1, rfl, by omega, rfl, by rw [← hit]; simp [hj], by (exact AX.ev0 t0), by (exact AX.ev0 ta), by (exact AX.ev0 tb), by (exact AX.ev0 ei)⟩
      · rw [hb] at hit
        (refine AX.run0 (And.intro t0 (And.intro ta (And.intro tb (And.intro tc (And.intro e1 (And.intro w1 (And.intro h0 (And.intro ej (And.intro hg2 (And.intro hi' (And.intro hi0 (And.intro hb ei)))))))))))) ?_)
        first
        | (subst hit; exact ⟨_, le_refl _, rfl⟩)
        | exact ⟨ds.length - (i + 1 + 1), by omega, i + 1 + 1, rfl, by omega, rfl, by rw [← hit]; simp [hj], by (exact AX.ev0 t0), by (exact AX.ev0 ta), by (exact AX.ev0 tb), by (exact AX.ev0 ei)⟩
  · have hlt : ¬ ((j : Int) < (ds.length : Int)) := by omega
    rw [List.drop_eq_nil_of_le (by omega)] at hit
    unfold Sf.depsB at hit
    subst hit
    (refine AX.run0 (And.intro t0 (And.intro ta (And.intro tb (And.intro tc hlt)))) ?_)
    exact ⟨_, le_refl _, rfl⟩
/-- A record whose texts are not too long. -/
structure Sf.InstIn (x : Sf.Inst) : Prop where
  a : x.addr.length ≤ 2000000
  d : x.dep.length ≤ 2000000
  i : x.id.length ≤ 2000000
  l : x.attrs.lens
  n : x.deps.length ≤ 1000000000
  ds : ∀ s ∈ x.deps, s.length ≤ 2000000
theorem a_instance (L : Leafs) (x : Sf.Inst) (hx : Sf.InstIn x) (h : Hp) : ACall Tryz.prog GT 77 [.agg x.cells] h fun r h' => r = .int .i64 (Sf.instZ x) ∧ h' = h := by
  have cm := fun h => a_managed L x.addr x.typ hx.a h
  have ck := fun h => a_key L x.dep hx.d h
  have ct := fun h => L.text x.id hx.i h
  have cv := fun h => a_vCheck x.attrs hx.l h
  have cn := fun h => L.known x.attrs hx.l h
  have cs := fun h => a_statics L x.deps hx.n hx.ds h
  obtain ⟨Z, hZ⟩ : ∃ Z, Sf.instZ x = Z := ⟨_, rfl⟩
  rw [hZ]
  unfold Sf.instZ Sf.keyB at hZ
  obtain ⟨a, d, id, ty, ⟨k, n, w, vi, vy⟩, v, tn, fi, ds⟩ := x
  clear hx
  dsimp only at cm ck ct cv cn cs hZ
  have hVA : (V.mk k n w vi vy).A = .agg [.int .i64 k, .int .i64 n, .str w, .sl 5 .no (V.cellss vi), .sl 1 .no (strsA vy)] := by simp only [V.A, V.cells]
  rw [hVA] at cv cn
  obtain ⟨M, hM⟩ : ∃ M, Sf.managed a ty = M := ⟨_, rfl⟩
  obtain ⟨K, hK⟩ : ∃ K, ((Num.parse d).2 == 0 && decide (1 ≤ (Num.parse d).1)) = K := ⟨_, rfl⟩
  obtain ⟨T, hT⟩ : ∃ T, Sf.text id = T := ⟨_, rfl⟩
  obtain ⟨C, hC⟩ : ∃ C, Val.checkZ (.mk k n w vi vy) = C := ⟨_, rfl⟩
  obtain ⟨N, hN⟩ : ∃ N, Sf.known (.mk k n w vi vy) = N := ⟨_, rfl⟩
  obtain ⟨S, hS⟩ : ∃ S, Sf.depsB none ds = S := ⟨_, rfl⟩
  have hkd : Sf.V.kind (.mk k n w vi vy) = k := rfl
  rw [hM] at cm hZ
  rw [hK] at ck hZ
  rw [hT] at ct hZ
  rw [hC] at cv hZ
  rw [hN] at cn hZ
  rw [hS] at cs hZ
  rw [hkd] at hZ
  refine pcall ?_ rfl (by simp [A.pure, A.data, Sf.Inst.cells]) h
  refine acall_of mixedT h_sinstance (by simp [c_sinstance]) ?_
  dsimp only [c_sinstance, Sf.Inst.cells]
  (refine AX.run0 True.intro ?_)
  refine use (cm _) ?_
  cases M
  · rw [if_pos (by simp)] at hZ
    subst hZ
    (refine AX.run0 True.intro ?_)
    exact ⟨_, le_refl _, rfl⟩
  have key : ∀ {G : Prop}, ((d != []) = false → (d == []) = true → G) → ((d != []) = true → (d == []) = false → G) → G := fun p q => by
    by_cases e : d = []
    · exact p (by simp [e]) (by simp [e])
    · exact q (by simp [e]) (by simp [e])
  have rest : True := True.intro
  refine key (fun d1 d2 => ?_) (fun d1 d2 => ?_)
  all_goals rw [d2] at hZ
  · (refine AX.run0 d1 ?_)
    refine use (ct _) ?_
    cases T
    · rw [if_pos (by simp)] at hZ
      subst hZ
      (refine AX.run0 True.intro ?_)
      exact ⟨_, le_refl _, rfl⟩
    rw [if_neg (by simp)] at hZ
    (refine AX.run0 True.intro ?_)
    refine use (cv _) ?_
    by_cases hz : C = 0
    rotate_left
    · have e1 : (C != 0) = true := by simp [hz]
      rw [if_pos hz] at hZ
      (refine AX.run0 e1 ?_)
      exact ⟨_, le_refl _, by rw [← hZ]; rfl⟩
    have e1 : (C != 0) = false := by simp [hz]
    rw [if_neg (by simp [hz])] at hZ
    by_cases hk5 : k = 5
    rotate_left
    · have e2 : (k != 5) = true := by simp [hk5]
      rw [if_pos hk5] at hZ
      (refine AX.run0 (And.intro e1 e2) ?_)
      exact ⟨_, le_refl _, by rw [← hZ]; rfl⟩
    have e2 : (k != 5) = false := by simp [hk5]
    rw [if_neg (by simp [hk5])] at hZ
    (refine AX.run0 (And.intro e1 e2) ?_)
    refine use (cn _) ?_
    cases N
    · rw [if_pos (by simp)] at hZ
      (refine AX.run0 True.intro ?_)
      exact ⟨_, le_refl _, by rw [← hZ]; rfl⟩
    rw [if_neg (by simp)] at hZ
    by_cases v0 : v < 1
    · rw [if_pos (.inl v0)] at hZ
      (refine AX.run0 v0 ?_)
      exact ⟨_, le_refl _, by rw [← hZ]; rfl⟩
    by_cases v1 : v > 9007199254740992
    · rw [if_pos (.inr v1)] at hZ
      (refine AX.run0 (And.intro v0 v1) ?_)
      exact ⟨_, le_refl _, by rw [← hZ]; rfl⟩
    rw [if_neg (by omega)] at hZ
    (refine AX.run0 (And.intro v0 v1) ?_)
    refine use (cs _) ?_
    cases S
    · rw [if_pos (by simp)] at hZ
      (refine AX.run0 True.intro ?_)
      exact ⟨_, le_refl _, by rw [← hZ]; rfl⟩
    · rw [if_neg (by simp)] at hZ
      (refine AX.run0 True.intro ?_)
      exact ⟨_, le_refl _, by rw [← hZ]; rfl⟩
  · (refine AX.run0 d1 ?_)
    refine use (ck _) ?_
    cases K
    · rw [if_pos (by simp)] at hZ
      subst hZ
      (refine AX.run0 True.intro ?_)
      exact ⟨_, le_refl _, rfl⟩
    (refine AX.run0 True.intro ?_)
    refine use (ct _) ?_
    cases T
    · rw [if_pos (by simp)] at hZ
      subst hZ
      (refine AX.run0 True.intro ?_)
      exact ⟨_, le_refl _, rfl⟩
    rw [if_neg (by simp)] at hZ
    (refine AX.run0 True.intro ?_)
    refine use (cv _) ?_
    by_cases hz : C = 0
    rotate_left
    · have e1 : (C != 0) = true := by simp [hz]
      rw [if_pos hz] at hZ
      (refine AX.run0 e1 ?_)
      exact ⟨_, le_refl _, by rw [← hZ]; rfl⟩
    have e1 : (C != 0) = false := by simp [hz]
    rw [if_neg (by simp [hz])] at hZ
    by_cases hk5 : k = 5
    rotate_left
    · have e2 : (k != 5) = true := by simp [hk5]
      rw [if_pos hk5] at hZ
      (refine AX.run0 (And.intro e1 e2) ?_)
      exact ⟨_, le_refl _, by rw [← hZ]; rfl⟩
    have e2 : (k != 5) = false := by simp [hk5]
    rw [if_neg (by simp [hk5])] at hZ
    (refine AX.run0 (And.intro e1 e2) ?_)
    refine use (cn _) ?_
    cases N
    · rw [if_pos (by simp)] at hZ
      (refine AX.run0 True.intro ?_)
      exact ⟨_, le_refl _, by rw [← hZ]; rfl⟩
    rw [if_neg (by simp)] at hZ
    by_cases v0 : v < 1
    · rw [if_pos (.inl v0)] at hZ
      (refine AX.run0 v0 ?_)
      exact ⟨_, le_refl _, by rw [← hZ]; rfl⟩
    by_cases v1 : v > 9007199254740992
    · rw [if_pos (.inr v1)] at hZ
      (refine AX.run0 (And.intro v0 v1) ?_)
      exact ⟨_, le_refl _, by rw [← hZ]; rfl⟩
    rw [if_neg (by omega)] at hZ
    (refine AX.run0 (And.intro v0 v1) ?_)
    refine use (cs _) ?_
    cases S
    · rw [if_pos (by simp)] at hZ
      (refine AX.run0 True.intro ?_)
      exact ⟨_, le_refl _, by rw [← hZ]; rfl⟩
    · rw [if_neg (by simp)] at hZ
      (refine AX.run0 True.intro ?_)
      exact ⟨_, le_refl _, by rw [← hZ]; rfl⟩
end AX
end Go.Proofs.YtkhhnkceiibmfaaGreatDoor

namespace Go.Proofs.YtkhhnkceiibmfaaGreatDoor
open Go.RowKit
open Go.Op (bytesLess)
set_option linter.unusedSimpArgs false
set_option linter.unusedVariables false
set_option maxHeartbeats 4000000
namespace Adr
theorem indexAny_word : ∀ s : List UInt8, (Lib.indexAny s [46, 91] = -1 ∧ s.takeWhile (fun c => !stopB c) = s ∧ s.dropWhile (fun c => !stopB c) = []) ∨
    ∃ n : Nat, Lib.indexAny s [46, 91] = n ∧ n ≤ s.length ∧ s.takeWhile (fun c => !stopB c) = s.take n ∧ s.dropWhile (fun c => !stopB c) = s.drop n
  | [] => .inl ⟨rfl, rfl, rfl⟩
  | c :: s => by
    have hc : ([46, 91] : List UInt8).contains c = stopB c := by
      unfold stopB
      simp
      rfl
    unfold Lib.indexAny
    rw [hc]
    cases h : stopB c
    · rcases indexAny_word s with ⟨h1, h2, h3⟩ | ⟨n, h1, h2, h3, h4⟩
      · refine .inl ⟨by rw [h1]; rfl, ?_, ?_⟩
        · rw [List.takeWhile_cons_of_pos (by simp [h]), h2]
        · rw [List.dropWhile_cons_of_pos (by simp [h]), h3]
      · refine .inr ⟨n + 1, ?_, by simpa using h2, ?_, ?_⟩
        · rw [h1]
          have e : ((n : Int) == -1) = false := by simp <;> omega
          simp only [Bool.false_eq_true, if_false, e]
          omega
        · rw [List.takeWhile_cons_of_pos (by simp [h]), h3, List.take_succ_cons]
        · rw [List.dropWhile_cons_of_pos (by simp [h]), h4, List.drop_succ_cons]
    · refine .inr ⟨0, rfl, Nat.zero_le _, ?_, ?_⟩
      · rw [List.takeWhile_cons_of_neg (by simp [h])]; rfl
      · rw [List.dropWhile_cons_of_neg (by simp [h])]; rfl
theorem indexByte_key : ∀ s : List UInt8, (s.all (· != 93) = true ∧ Lib.indexByte s 93 = -1) ∨ (s.all (· != 93) = false ∧ Lib.indexByte s 93 = ((s.takeWhile (· != 93)).length : Nat) ∧ (s.takeWhile (· != 93)).length ≤ s.length)
  | [] => .inl ⟨rfl, rfl⟩
  | c :: s => by
    unfold Lib.indexByte
    by_cases h : c = 93
    · subst h
      refine .inr ⟨by simp, ?_, Nat.le_of_lt_succ (by simp)⟩
      simp
    · have hb : (c == 93) = false := by simp [h]
      have hn : (c != 93) = true := by simp [h]
      rcases indexByte_key s with ⟨h1, h2⟩ | ⟨h1, h2, h3⟩
      · refine .inl ⟨by rw [List.all_cons, hn, h1]; rfl, ?_⟩
        simp [hb, h, h2]
      · refine .inr ⟨by rw [List.all_cons, h1, Bool.and_false], ?_, ?_⟩
        · simp only [List.takeWhile_cons, hn, if_true, List.length_cons, hb, Bool.false_eq_true, if_false, h2]
          have e : (((s.takeWhile (· != 93)).length : Nat) : Int) == -1 ↔ False := by simp <;> omega
          rw [if_neg (by rw [e]; exact id)]
          omega
        · simp only [List.takeWhile_cons, hn, if_true, List.length_cons]
          omega
theorem cmp_bytes : ∀ a b : List UInt8, Lib.compareBytes a b = AX.cmpZ a b
  | [], [] => rfl
  | [], _ :: _ => rfl
  | _ :: _, [] => rfl
  | a :: a1, b :: b1 => by
    have ih := cmp_bytes a1 b1
    unfold AX.cmpZ at ih ⊢
    unfold Lib.compareBytes bytesLess
    by_cases h1 : a < b
    · have hne : a ≠ b := by intro e; subst e; exact absurd h1 (by simp)
      simp [h1, hne]
    · by_cases h2 : b < a
      · have hne : a ≠ b := by intro e; subst e; exact absurd h2 (by simp)
        simp [h1, h2, hne]
      · have he : a = b := by
          have h3 : ¬ a.toNat < b.toNat := h1
          have h4 : ¬ b.toNat < a.toNat := h2
          exact UInt8.toNat_inj.1 (by omega)
        subst he
        rw [if_neg h1, if_neg h2, ih]
        simp
end Adr
namespace AX
def c_akind : AX.AFn := ⟨18, .seq (.reg false [⟨some 2, .mv (.c (.bool false)), none, []⟩]) (.seq (.seq (.reg false [⟨some 3, .mv (.t 0), none, []⟩]) (.block 0 (.seq (.seq (.reg false [⟨some 5, .bin .eql (.t 3) (.c (.str [109, 111, 100, 117, 108, 101])), none, []⟩, ⟨some 4, .mv (.t 5), none, []⟩]) (.cond (.t 4) (.skip) (.seq (.reg false [⟨some 6, .bin .eql (.t 3) (.c (.str [100, 97, 116, 97])), none, []⟩, ⟨some 4, .mv (.t 6), none, []⟩]) (.cond (.t 4) (.skip) (.seq (.reg false [⟨some 7, .bin .eql (.t 3) (.c (.str [118, 97, 114])), none, []⟩, ⟨some 4, .mv (.t 7), none, []⟩]) (.cond (.t 4) (.skip) (.seq (.reg false [⟨some 8, .bin .eql (.t 3) (.c (.str [108, 111, 99, 97, 108])), none, []⟩, ⟨some 4, .mv (.t 8), none, []⟩]) (.cond (.t 4) (.skip) (.seq (.reg false [⟨some 9, .bin .eql (.t 3) (.c (.str [101, 97, 99, 104])), none, []⟩, ⟨some 4, .mv (.t 9), none, []⟩]) (.cond (.t 4) (.skip) (.seq (.reg false [⟨some 10, .bin .eql (.t 3) (.c (.str [99, 111, 117, 110, 116])), none, []⟩, ⟨some 4, .mv (.t 10), none, []⟩]) (.cond (.t 4) (.skip) (.seq (.reg false [⟨some 11, .bin .eql (.t 3) (.c (.str [114, 101, 109, 111, 116, 101])), none, []⟩, ⟨some 4, .mv (.t 11), none, []⟩]) (.cond (.t 4) (.skip) (.seq (.reg false [⟨some 12, .bin .eql (.t 3) (.c (.str [111, 117, 116, 112, 117, 116])), none, []⟩, ⟨some 4, .mv (.t 12), none, []⟩]) (.cond (.t 4) (.skip) (.seq (.reg false [⟨some 13, .bin .eql (.t 3) (.c (.str [112, 97, 116, 104])), none, []⟩, ⟨some 4, .mv (.t 13), none, []⟩]) (.cond (.t 4) (.skip) (.seq (.reg false [⟨some 14, .bin .eql (.t 3) (.c (.str [115, 101, 108, 102])), none, []⟩, ⟨some 4, .mv (.t 14), none, []⟩]) (.cond (.t 4) (.skip) (.reg false [⟨some 15, .bin .eql (.t 3) (.c (.str [99, 104, 97, 110, 103, 101])), none, []⟩, ⟨some 4, .mv (.t 15), none, []⟩]))))))))))))))))))))) (.cond (.t 4) (.seq (.reg false [⟨some 2, .mv (.c (.bool false)), none, []⟩]) (.ret)) (.skip))))) (.seq (.reg false [⟨some 16, .mv (.t 0), none, []⟩, ⟨some 17, .call 106 [.t 16], none, []⟩, ⟨some 2, .mv (.t 17), none, []⟩]) (.ret))), [.t 2]⟩
theorem h_akind : AX.compFn Tryz.prog 201 = some c_akind := by kernel_rfl
def c_aword : AX.AFn := ⟨45, .seq (.reg false [⟨some 2, .mv (.c (.str [])), none, []⟩]) (.seq (.reg false [⟨some 5, .mv (.t 0), none, []⟩, ⟨some 6, .nilck (.t 5), none, []⟩, ⟨some 7, .faddr 0 (.t 6), none, []⟩, ⟨some 8, .load false 1 (.t 7), none, []⟩, ⟨some 9, .call 245 [.t 8, .c (.str [46, 91])], none, []⟩, ⟨some 3, .mv (.t 9), none, []⟩]) (.seq (.seq (.reg false [⟨some 10, .mv (.t 3), none, []⟩, ⟨some 11, .bin .lss (.t 10) (.c (.int .i64 0)), none, []⟩]) (.cond (.t 11) (.reg false [⟨some 12, .mv (.t 0), none, []⟩, ⟨some 13, .nilck (.t 12), none, []⟩, ⟨some 14, .faddr 0 (.t 13), none, []⟩, ⟨some 15, .load false 1 (.t 14), none, []⟩, ⟨some 16, .len true (.t 15), none, []⟩, ⟨some 3, .mv (.t 16), none, []⟩]) (.skip))) (.seq (.reg false [⟨some 17, .mv (.t 0), none, []⟩, ⟨some 18, .nilck (.t 17), none, []⟩, ⟨some 19, .faddr 0 (.t 18), none, []⟩, ⟨some 20, .load false 1 (.t 19), none, []⟩, ⟨some 21, .mv (.t 3), none, []⟩, ⟨some 22, .ssl (.t 20) none (some (.t 21)), none, []⟩, ⟨some 4, .mv (.t 22), none, []⟩]) (.seq (.reg false [⟨some 23, .mv (.t 0), none, []⟩, ⟨some 24, .mv (.t 0), none, []⟩, ⟨some 25, .nilck (.t 24), none, []⟩, ⟨some 26, .faddr 0 (.t 25), none, []⟩, ⟨some 27, .load false 1 (.t 26), none, []⟩, ⟨some 28, .mv (.t 3), none, []⟩, ⟨some 29, .ssl (.t 27) (some (.t 28)) none, none, []⟩, ⟨some 30, .nilck (.t 23), none, []⟩, ⟨some 31, .faddr 0 (.t 30), none, []⟩, ⟨none, .store 1 (.t 31) (.t 29), none, []⟩]) (.seq (.reg false [⟨some 32, .mv (.t 0), none, []⟩, ⟨some 33, .mv (.t 0), none, []⟩, ⟨some 34, .nilck (.t 33), none, []⟩, ⟨some 35, .faddr 1 (.t 34), none, []⟩, ⟨some 36, .load false 1 (.t 35), none, []⟩, ⟨some 37, .mv (.t 36), none, []⟩, ⟨some 38, .mv (.t 4), some (37, false), []⟩, ⟨some 39, .call 106 [.t 38], some (37, false), []⟩, ⟨some 40, .un .not (.t 39), some (37, false), []⟩, ⟨some 41, .pick (.t 37) (.c (.bool true)) (.t 40), none, []⟩, ⟨some 42, .nilck (.t 32), none, []⟩, ⟨some 43, .faddr 1 (.t 42), none, []⟩, ⟨none, .store 1 (.t 43) (.t 41), none, []⟩]) (.seq (.reg false [⟨some 44, .mv (.t 4), none, []⟩, ⟨some 2, .mv (.t 44), none, []⟩]) (.ret))))))), [.t 2]⟩
theorem h_aword : AX.compFn Tryz.prog 199 = some c_aword := by kernel_rfl
def c_avalid : AX.AFn := ⟨35, .seq (.reg false [⟨some 1, .box 202 (.t 0), none, []⟩, ⟨some 2, .mv (.c (.bool false)), none, []⟩]) (.seq (.seq (.reg false [⟨some 3, .faddr 0 (.t 1), none, []⟩, ⟨some 4, .load false 1 (.t 3), none, []⟩]) (.block 0 (.seq (.reg false [⟨some 6, .bin .eql (.t 4) (.c (.int .i64 0)), none, []⟩, ⟨some 5, .mv (.t 6), none, []⟩]) (.cond (.t 5) (.seq (.reg false [⟨some 7, .load true 3 (.t 1), none, []⟩, ⟨some 8, .build [.int .i64 0, .int .i64 0, .str []] [], none, []⟩, ⟨some 9, .eq 2 [0, 0, 1] false (.t 7) (.t 8), none, []⟩, ⟨some 2, .mv (.t 9), none, []⟩]) (.ret)) (.seq (.reg false [⟨some 11, .bin .eql (.t 4) (.c (.int .i64 1)), none, []⟩, ⟨some 10, .mv (.t 11), none, []⟩]) (.cond (.t 10) (.seq (.reg false [⟨some 12, .faddr 1 (.t 1), none, []⟩, ⟨some 13, .load false 1 (.t 12), none, []⟩, ⟨some 14, .bin .geq (.t 13) (.c (.int .i64 0)), none, []⟩, ⟨some 15, .mv (.t 14), none, []⟩, ⟨some 16, .faddr 1 (.t 1), some (15, true), []⟩, ⟨some 17, .load false 1 (.t 16), some (15, true), []⟩, ⟨some 18, .bin .leq (.t 17) (.c (.int .i64 9007199254740992)), some (15, true), []⟩, ⟨some 19, .pick (.t 15) (.t 18) (.c (.bool false)), none, []⟩, ⟨some 20, .mv (.t 19), none, []⟩, ⟨some 21, .faddr 2 (.t 1), some (20, true), []⟩, ⟨some 22, .load false 1 (.t 21), some (20, true), []⟩, ⟨some 23, .bin .eql (.t 22) (.c (.str [])), some (20, true), []⟩, ⟨some 24, .pick (.t 20) (.t 23) (.c (.bool false)), none, []⟩, ⟨some 2, .mv (.t 24), none, []⟩]) (.ret)) (.seq (.reg false [⟨some 26, .bin .eql (.t 4) (.c (.int .i64 2)), none, []⟩, ⟨some 25, .mv (.t 26), none, []⟩]) (.cond (.t 25) (.seq (.reg false [⟨some 27, .faddr 1 (.t 1), none, []⟩, ⟨some 28, .load false 1 (.t 27), none, []⟩, ⟨some 29, .bin .eql (.t 28) (.c (.int .i64 0)), none, []⟩, ⟨some 30, .mv (.t 29), none, []⟩, ⟨some 31, .faddr 2 (.t 1), some (30, true), []⟩, ⟨some 32, .load false 1 (.t 31), some (30, true), []⟩, ⟨some 33, .call 144 [.t 32], some (30, true), []⟩, ⟨some 34, .pick (.t 30) (.t 33) (.c (.bool false)), none, []⟩, ⟨some 2, .mv (.t 34), none, []⟩]) (.ret)) (.skip))))))))) (.seq (.reg false [⟨some 2, .mv (.c (.bool false)), none, []⟩]) (.ret))), [.t 2]⟩
theorem h_avalid : AX.compFn Tryz.prog 294 = some c_avalid := by kernel_rfl

theorem a_cmp (a b : List UInt8) (h : Hp) : ACall Tryz.prog GT 149 [.str a, .str b] h fun r h' => r = .int .i64 (cmpZ a b) ∧ h' = h := by
  rw [← Adr.cmp_bytes]
  exact acall_imp (args2 r_str r_str) (fun w hg => (Tryz.strings_Compare ⟨a.toArray⟩ ⟨b.toArray⟩ w).mono fun e w' ⟨h1, h2⟩ => ⟨h1, by rw [h2]; exact Below.refl _ _⟩) (fun C => rep_int.2 rfl) h
theorem a_indexAny (s : List UInt8) (hs : s.length ≤ 2000000) (h : Hp) : ACall Tryz.prog GT 245 [.str s, .str [46, 91]] h fun r h' => r = .int .i64 (Lib.indexAny s [46, 91]) ∧ h' = h :=
  acall_imp (args2 r_str r_str) (fun w hg => indexAny_any ⟨s.toArray⟩ (by rw [size_mk]; omega) w) (fun C => rep_int.2 rfl) h
theorem a_indexByte (s : List UInt8) (h : Hp) : ACall Tryz.prog GT 248 [.str s, .int .u8 93] h fun r h' => r = .int .i64 (Lib.indexByte s 93) ∧ h' = h :=
  acall_imp (args2 r_str r_int) (fun w hg => (Tryz.strings_IndexByte ⟨s.toArray⟩ 93 w).mono fun e w' ⟨h1, h2⟩ => ⟨h1, by rw [h2]; exact Below.refl _ _⟩) (fun C => rep_int.2 rfl) h
theorem a_kind (s : List UInt8) (hs : s.length ≤ 2000000) (h : Hp) : ACall Tryz.prog GT 201 [.str s] h fun r h' => r = .bool (Adr.kindB s) ∧ h' = h := by
  refine pcall ?_ rfl (by simp [A.pure, A.data]) h
  refine acall_of mixedT h_akind (by simp [c_akind]) ?_
  dsimp only [c_akind]
  have hi := fun h => a_ident s hs h
  have hk : Adr.kindB s = (!Adr.reserved s && Adr.ident s) := rfl
  have hr : ∀ {G : Prop} (w : List UInt8), ((s == w) = true → G) → ((s == w) = false → G) → G := fun w p q => by
    cases e : s == w
    · exact q e
    · exact p e
  have res : ∀ w, (s == w) = true → w ∈ Adr.reservedL → Adr.kindB s = false := fun w e hw => by
    rw [beq_iff_eq] at e; subst e
    rw [hk]
    unfold Adr.reserved
    rw [List.contains_iff_mem.2 hw]; rfl
  refine hr [109, 111, 100, 117, 108, 101] (fun e1 => ?_) fun e1 => ?_
  · (refine AX.run0 e1 ?_)
    exact ⟨_, le_refl _, by rw [res _ e1 (by decide)]; rfl⟩
  refine hr [100, 97, 116, 97] (fun e2 => ?_) fun e2 => ?_
  · (refine AX.run0 (And.intro e1 e2) ?_)
    exact ⟨_, le_refl _, by rw [res _ e2 (by decide)]; rfl⟩
  refine hr [118, 97, 114] (fun e3 => ?_) fun e3 => ?_
  · (refine AX.run0 (And.intro e1 (And.intro e2 e3)) ?_)
    exact ⟨_, le_refl _, by rw [res _ e3 (by decide)]; rfl⟩
  refine hr [108, 111, 99, 97, 108] (fun e4 => ?_) fun e4 => ?_
  · (refine AX.run0 (And.intro e1 (And.intro e2 (And.intro e3 e4))) ?_)
    exact ⟨_, le_refl _, by rw [res _ e4 (by decide)]; rfl⟩
  refine hr [101, 97, 99, 104] (fun e5 => ?_) fun e5 => ?_
  · (refine AX.run0 (And.intro e1 (And.intro e2 (And.intro e3 (And.intro e4 e5)))) ?_)
    exact ⟨_, le_refl _, by rw [res _ e5 (by decide)]; rfl⟩
  refine hr [99, 111, 117, 110, 116] (fun e6 => ?_) fun e6 => ?_
  · (refine AX.run0 (And.intro e1 (And.intro e2 (And.intro e3 (And.intro e4 (And.intro e5 e6))))) ?_)
    exact ⟨_, le_refl _, by rw [res _ e6 (by decide)]; rfl⟩
  refine hr [114, 101, 109, 111, 116, 101] (fun e7 => ?_) fun e7 => ?_
  · (refine AX.run0 (And.intro e1 (And.intro e2 (And.intro e3 (And.intro e4 (And.intro e5 (And.intro e6 e7)))))) ?_)
    exact ⟨_, le_refl _, by rw [res _ e7 (by decide)]; rfl⟩
  refine hr [111, 117, 116, 112, 117, 116] (fun e8 => ?_) fun e8 => ?_
  · (refine AX.run0 (And.intro e1 (And.intro e2 (And.intro e3 (And.intro e4 (And.intro e5 (And.intro e6 (And.intro e7 e8))))))) ?_)
    exact ⟨_, le_refl _, by rw [res _ e8 (by decide)]; rfl⟩
  refine hr [112, 97, 116, 104] (fun e9 => ?_) fun e9 => ?_
  · (refine AX.run0 (And.intro e1 (And.intro e2 (And.intro e3 (And.intro e4 (And.intro e5 (And.intro e6 (And.intro e7 (And.intro e8 e9)))))))) ?_)
    exact ⟨_, le_refl _, by rw [res _ e9 (by decide)]; rfl⟩
  refine hr [115, 101, 108, 102] (fun e10 => ?_) fun e10 => ?_
  · (refine AX.run0 (And.intro e1 (And.intro e2 (And.intro e3 (And.intro e4 (And.intro e5 (And.intro e6 (And.intro e7 (And.intro e8 (And.intro e9 e10))))))))) ?_)
    exact ⟨_, le_refl _, by rw [res _ e10 (by decide)]; rfl⟩
  refine hr [99, 104, 97, 110, 103, 101] (fun e11 => ?_) fun e11 => ?_
  · (refine AX.run0 (And.intro e1 (And.intro e2 (And.intro e3 (And.intro e4 (And.intro e5 (And.intro e6 (And.intro e7 (And.intro e8 (And.intro e9 (And.intro e10 e11)))))))))) ?_)
    exact ⟨_, le_refl _, by rw [res _ e11 (by decide)]; rfl⟩
  have hres : Adr.reserved s = false := by
    have h1 := beq_eq_false_iff_ne.1 e1; have h2 := beq_eq_false_iff_ne.1 e2; have h3 := beq_eq_false_iff_ne.1 e3; have h4 := beq_eq_false_iff_ne.1 e4
    have h5 := beq_eq_false_iff_ne.1 e5; have h6 := beq_eq_false_iff_ne.1 e6; have h7 := beq_eq_false_iff_ne.1 e7; have h8 := beq_eq_false_iff_ne.1 e8
    have h9 := beq_eq_false_iff_ne.1 e9; have h10 := beq_eq_false_iff_ne.1 e10; have h11 := beq_eq_false_iff_ne.1 e11
    unfold Adr.reserved
    rw [Bool.eq_false_iff]
    intro hc
    rw [List.contains_iff_mem] at hc
    unfold Adr.reservedL at hc
    simp only [List.mem_cons, List.not_mem_nil, or_false] at hc
    rcases hc with e | e | e | e | e | e | e | e | e | e | e <;> simp_all
  rw [hk, hres]
  (refine AX.run0 (And.intro e1 (And.intro e2 (And.intro e3 (And.intro e4 (And.intro e5 (And.intro e6 (And.intro e7 (And.intro e8 (And.intro e9 (And.intro e10 e11)))))))))) ?_)
  refine use (hi _) ?_
  (refine AX.run0 True.intro ?_)
  exact ⟨_, le_refl _, by simp [tupA_1]⟩
theorem w_word (r : Adr.Rd) (hl : r.rest.length ≤ 2000000) {h : Hp} {i : Nat} (hb : h.b[i]? = some (adB r)) :
    ACall Tryz.prog GT 199 [.ptr i 0] h fun v h' => v = .str (Adr.wordP r).1 ∧ h' = ⟨h.b.set i (adB (Adr.wordP r).2), h.t⟩ := by
  have key : ACall Tryz.prog GT 199 [.ptr 0 0] ⟨[adB r], []⟩ fun v h' => ∃ b', h'.b[0]? = some b' ∧ v = .str (Adr.wordP r).1 ∧ b' = adB (Adr.wordP r).2 := by
    obtain ⟨rest, bad⟩ := r
    dsimp only at hl
    refine acall_of mixedT h_aword (by simp [c_aword]) ?_
    dsimp only [c_aword]
    unfold adB
    have hW : Adr.wordP ⟨rest, bad⟩ = (rest.takeWhile (fun c => !Adr.stopB c), ⟨rest.dropWhile (fun c => !Adr.stopB c), bad || !Adr.ident (rest.takeWhile (fun c => !Adr.stopB c))⟩) := rfl
    rw [hW]
    have hi := fun (s : List UInt8) (hs : s.length ≤ 2000000) h => a_ident s hs h
    (refine AX.run0 True.intro ?_)
    refine use (a_indexAny rest hl _) ?_
    rcases Adr.indexAny_word rest with ⟨h1, h2, h3⟩ | ⟨n, h1, h2, h3, h4⟩
    · rw [h1, h2, h3]
      have lm : (-1 : Int) < 0 := by decide
      have l0 : (0 : Int) ≤ (rest.length : Int) := by omega
      have td : rest.drop rest.length = [] := List.drop_length
      cases bad
      · (refine AX.run0 (And.intro lm (And.intro l0 td)) ?_)
        refine use (hi rest hl _) ?_
        (refine AX.run0 True.intro ?_)
        exact ⟨_, le_refl _, _, rfl, rfl, rfl⟩
      · (refine AX.run0 (And.intro lm (And.intro l0 td)) ?_)
        exact ⟨_, le_refl _, _, rfl, rfl, rfl⟩
    · rw [h1, h3, h4]
      have lm : ¬ (n : Int) < 0 := by omega
      have l0 : (0 : Int) ≤ (n : Int) := by omega
      have l1 : (n : Int) ≤ (rest.length : Int) := by omega
      have ht : (rest.take n).length ≤ 2000000 := by rw [List.length_take]; omega
      cases bad
      · (refine AX.run0 (And.intro lm (And.intro l0 l1)) ?_)
        refine use (hi _ ht _) ?_
        (refine AX.run0 True.intro ?_)
        exact ⟨_, le_refl _, _, rfl, rfl, rfl⟩
      · (refine AX.run0 (And.intro lm (And.intro l0 l1)) ?_)
        exact ⟨_, le_refl _, _, rfl, rfl, rfl⟩
  refine (ACall.lift1 key rfl (adB_loc r) ?_ hb).mono ?_
  · rintro v b' ⟨rfl, rfl⟩; exact ⟨rfl, adB_loc _⟩
  · rintro v h' ⟨b', ⟨rfl, rfl⟩, rfl⟩; exact ⟨rfl, rfl⟩
def Adr.K.A (k : Adr.K) : A := .agg [.int .i64 k.kind, .int .i64 k.num, .str k.str]
theorem a_avalid (k : Adr.K) (hs : k.str.length ≤ 2000000) (h : Hp) : ACall Tryz.prog GT 294 [Adr.K.A k] h fun r h' => r = .bool (Adr.keyOk k) ∧ h' = h := by
  obtain ⟨kd, nm, st⟩ := k
  dsimp only at hs
  unfold Adr.K.A
  refine pcall ?_ rfl (by simp [A.pure, A.data]) h
  refine acall_of mixedT h_avalid (by simp [c_avalid]) ?_
  dsimp only [c_avalid]
  have hv := fun h => a_valid st hs h
  have hK : Adr.keyOk ⟨kd, nm, st⟩ = if kd = 1 then decide (0 ≤ nm) && decide (nm ≤ 9007199254740992) && st == [] else if kd = 2 then nm == 0 && Str.valid st else (⟨kd, nm, st⟩ : Adr.K) == Adr.K.none := rfl
  rw [hK]
  by_cases k0 : kd = 0
  · subst k0
    have e0 : ((0 : Int) == 0) = true := by decide
    rw [if_neg (by decide), if_neg (by decide)]
    have hn : ((⟨0, nm, st⟩ : Adr.K) == Adr.K.none) = (nm == 0 && st == []) := by
      rw [Bool.eq_iff_iff, beq_iff_eq, Bool.and_eq_true, beq_iff_eq, beq_iff_eq]
      unfold Adr.K.none
      simp
    (refine AX.run0 e0 ?_)
    exact ⟨_, le_refl _, by rw [hn]; simp [tupA_1]⟩
  have e0 : (kd == 0) = false := by simp [k0]
  by_cases k1 : kd = 1
  · subst k1
    have e1 : ((1 : Int) == 1) = true := by decide
    have e10 : ((1 : Int) == 0) = false := by decide
    rw [if_pos rfl]
    by_cases n0 : 0 ≤ nm
    · have g0 : nm ≥ 0 := n0
      by_cases n1 : nm ≤ 9007199254740992
      · (refine AX.run0 (And.intro e10 (And.intro e1 (And.intro g0 n1))) ?_)
        exact ⟨_, le_refl _, by rw [decide_eq_true n0, decide_eq_true n1]; rfl⟩
      · (refine AX.run0 (And.intro e10 (And.intro e1 (And.intro g0 n1))) ?_)
        exact ⟨_, le_refl _, by rw [decide_eq_false n1, Bool.and_false]; rfl⟩
    · have g0 : ¬ nm ≥ 0 := n0
      (refine AX.run0 (And.intro e10 (And.intro e1 g0)) ?_)
      exact ⟨_, le_refl _, by rw [decide_eq_false n0]; rfl⟩
  have e1 : (kd == 1) = false := by simp [k1]
  rw [if_neg k1]
  by_cases k2 : kd = 2
  · subst k2
    have e20 : ((2 : Int) == 0) = false := by decide
    have e21 : ((2 : Int) == 1) = false := by decide
    have e2 : ((2 : Int) == 2) = true := by decide
    rw [if_pos rfl]
    cases hn : nm == 0
    · (refine AX.run0 (And.intro e20 (And.intro e21 (And.intro e2 hn))) ?_)
      exact ⟨_, le_refl _, rfl⟩
    · (refine AX.run0 (And.intro e20 (And.intro e21 (And.intro e2 hn))) ?_)
      refine use (hv _) ?_
      (refine AX.run0 (And.intro e20 (And.intro e21 (And.intro e2 hn))) ?_)
      exact ⟨_, le_refl _, rfl⟩
  have e2 : (kd == 2) = false := by simp [k2]
  rw [if_neg k2]
  have hn : ((⟨kd, nm, st⟩ : Adr.K) == Adr.K.none) = false := by
    rw [beq_eq_false_iff_ne]
    unfold Adr.K.none
    intro e; injection e with e _ _; exact k0 e
  rw [hn]
  (refine AX.run0 (And.intro e0 (And.intro e1 e2)) ?_)
  exact ⟨_, le_refl _, rfl⟩
end AX
end Go.Proofs.YtkhhnkceiibmfaaGreatDoor

namespace Go.Proofs.YtkhhnkceiibmfaaGreatDoor
open Go.RowKit
set_option linter.unusedSimpArgs false
set_option linter.unusedVariables false
set_option maxHeartbeats 4000000
namespace Str
theorem one_width (l : List UInt8) (hl : l ≠ []) (h : (one l).2.2 = 0) : (one l).2.1 ≤ l.length := by
  have hp := List.length_pos_iff.2 hl
  by_cases h92 : l.getD 0 0 = 92
  · obtain ⟨⟨c, n, e⟩, he⟩ : ∃ x, escp (l.drop 1) = x := ⟨_, rfl⟩
    have h1 := one_esc l h92 c n e he
    rw [h1] at h ⊢
    by_cases h0 : e = 0
    · rw [if_neg (by simp [h0])]
      have := escp_len (l.drop 1) (by rw [he]; exact h0)
      rw [he, List.length_drop] at this
      dsimp only at this ⊢
      omega
    · rw [if_pos h0] at h
      exact absurd h h0
  · obtain ⟨⟨c, n⟩, hd⟩ : ∃ x, Lib.decodeL l = x := ⟨_, rfl⟩
    have hc : c ≠ 92 := by
      rcases dec_cases l with ⟨q1, q2⟩ | ⟨q1, q2⟩
      · rw [hd] at q2
        injection q2 with q2 q3
        intro e
        apply h92
        rw [← UInt8.toNat_inj]
        have : (l.getD 0 0).toNat = 92 := by omega
        simpa using this
      · rw [hd] at q2
        dsimp only at q2
        omega
    by_cases hbad : (c = 65533 ∧ n = 1) ∨ c < 32 ∨ c = 127
    · rw [one_bad l c n hd hc hbad] at h
      simp at h
    · rw [one_ok l hl c n hd hc hbad]
      have := Lib.decodeL_le l hl
      rw [hd] at this
      exact this
theorem unq_width : ∀ (f : Nat) (l acc : List UInt8) (i N : Nat), i + l.length = N → (unq f l acc i).2.2 = 0 → (unq f l acc i).2.1 ≤ N
  | 0, l, acc, i, N, hN, h => by
    unfold unq at h ⊢
    simp at h ⊢
  | f + 1, l, acc, i, N, hN, h => by
    unfold unq at h ⊢
    split
    · next h1 => rw [if_pos h1] at h; simp at h
    · next h1 =>
      rw [if_neg h1] at h
      have hp := List.length_pos_iff.2 h1
      split
      · next h2 =>
        rw [if_pos h2] at h
        split
        · exact Nat.zero_le _
        · dsimp only; omega
      · next h2 =>
        rw [if_neg h2] at h
        split
        · exact Nat.zero_le _
        · next h3 =>
          rw [if_neg h3] at h
          have := one_width l h1 (by simpa using h3)
          exact unq_width f _ _ _ N (by rw [List.length_drop]; omega) h
theorem unquote_width (l : List UInt8) (h : (unquote l).2.2 = 0) : (unquote l).2.1 ≤ l.length := by
  unfold unquote at h ⊢
  split
  · exact Nat.zero_le _
  · next h1 =>
    rw [if_neg h1] at h
    split
    · exact Nat.zero_le _
    · next h2 =>
      rw [if_neg h2] at h
      have hp := List.length_pos_iff.2 h1
      exact unq_width _ _ _ _ l.length (by rw [List.length_drop]; omega) h
end Str
namespace AX
def c_rkey : AX.AFn := ⟨101, .seq (.reg false [⟨some 2, .alloc 202 [.int .i64 0, .int .i64 0, .str []], none, []⟩]) (.seq (.seq (.reg false [⟨some 10, .mv (.t 0), none, []⟩, ⟨some 11, .nilck (.t 10), none, []⟩, ⟨some 12, .faddr 1 (.t 11), none, []⟩, ⟨some 13, .load false 1 (.t 12), none, []⟩, ⟨some 14, .mv (.t 13), none, []⟩, ⟨some 15, .mv (.t 0), some (14, false), []⟩, ⟨some 16, .call 196 [.t 15, .c (.str [91])], some (14, false), []⟩, ⟨some 17, .un .not (.t 16), some (14, false), []⟩, ⟨some 18, .pick (.t 14) (.c (.bool true)) (.t 17), none, []⟩]) (.cond (.t 18) (.seq (.reg false [⟨some 19, .build [.int .i64 0, .int .i64 0, .str []] [], none, []⟩, ⟨none, .store 3 (.t 2) (.t 19), none, []⟩]) (.ret)) (.skip))) (.seq (.reg false [⟨some 3, .alloc 202 [.int .i64 0, .int .i64 0, .str []], none, []⟩]) (.seq (.seq (.reg false [⟨some 20, .mv (.t 0), none, []⟩, ⟨some 21, .nilck (.t 20), none, []⟩, ⟨some 22, .faddr 0 (.t 21), none, []⟩, ⟨some 23, .load false 1 (.t 22), none, []⟩, ⟨some 24, .call 63 [.t 23, .c (.str [34])], none, []⟩]) (.cond (.t 24) (.seq (.reg false [⟨some 26, .mv (.t 0), none, []⟩, ⟨some 27, .nilck (.t 26), none, []⟩, ⟨some 28, .faddr 0 (.t 27), none, []⟩, ⟨some 29, .load false 1 (.t 28), none, []⟩, ⟨some 30, .call 246 [.t 29], none, []⟩, ⟨some 25, .mv (.t 30), none, []⟩, ⟨some 31, .extract (.t 25) 0, none, []⟩, ⟨some 32, .extract (.t 25) 1, none, []⟩, ⟨some 33, .extract (.t 25) 2, none, []⟩, ⟨some 4, .mv (.t 31), none, []⟩, ⟨some 5, .mv (.t 32), none, []⟩, ⟨some 6, .mv (.t 33), none, []⟩]) (.seq (.seq (.reg true [⟨some 34, .mv (.t 6), none, []⟩, ⟨some 35, .bin .neq (.t 34) (.c (.int .i64 0)), none, [0]⟩, ⟨some 36, .mv (.t 35), none, [1]⟩, ⟨some 37, .mv (.t 4), some (36, false), [2]⟩, ⟨some 38, .call 247 [.t 37], some (36, false), [3, 2, 2]⟩, ⟨some 39, .mv (.t 0), some (36, false), [2]⟩, ⟨some 40, .nilck (.t 39), some (36, false), [5, 2]⟩, ⟨some 41, .faddr 0 (.t 40), some (36, false), [6, 2]⟩, ⟨some 42, .load false 1 (.t 41), some (36, false), [7, 2]⟩, ⟨some 43, .mv (.t 5), some (36, false), [2]⟩, ⟨some 44, .ssl (.t 42) none (some (.t 43)), some (36, false), [8, 9, 2]⟩, ⟨some 45, .bin .neq (.t 38) (.t 44), some (36, false), [4, 10, 2]⟩, ⟨some 46, .pick (.t 36) (.c (.bool true)) (.t 45), none, [2, 11]⟩]) (.cond (.t 46) (.seq (.reg false [⟨some 47, .mv (.t 0), none, []⟩, ⟨some 48, .nilck (.t 47), none, []⟩, ⟨some 49, .faddr 1 (.t 48), none, []⟩, ⟨none, .store 1 (.t 49) (.c (.bool true)), none, []⟩]) (.seq (.reg false [⟨some 50, .load true 3 (.t 3), none, []⟩, ⟨none, .store 3 (.t 2) (.t 50), none, []⟩]) (.ret))) (.skip))) (.seq (.reg false [⟨some 51, .mv (.t 4), none, []⟩, ⟨some 52, .build [.int .i64 0, .int .i64 0, .str []] [(0, 1, .c (.int .i64 2)), (2, 1, .t 51)], none, []⟩, ⟨none, .store 3 (.t 3) (.t 52), none, []⟩]) (.reg false [⟨some 53, .mv (.t 0), none, []⟩, ⟨some 54, .mv (.t 0), none, []⟩, ⟨some 55, .nilck (.t 54), none, []⟩, ⟨some 56, .faddr 0 (.t 55), none, []⟩, ⟨some 57, .load false 1 (.t 56), none, []⟩, ⟨some 58, .mv (.t 5), none, []⟩, ⟨some 59, .ssl (.t 57) (some (.t 58)) none, none, []⟩, ⟨some 60, .nilck (.t 53), none, []⟩, ⟨some 61, .faddr 0 (.t 60), none, []⟩, ⟨none, .store 1 (.t 61) (.t 59), none, []⟩])))) (.seq (.reg false [⟨some 62, .mv (.t 0), none, []⟩, ⟨some 63, .nilck (.t 62), none, []⟩, ⟨some 64, .faddr 0 (.t 63), none, []⟩, ⟨some 65, .load false 1 (.t 64), none, []⟩, ⟨some 66, .call 248 [.t 65, .c (.int .u8 93)], none, []⟩, ⟨some 67, .mm true (.t 66) (.c (.int .i64 0)), none, []⟩, ⟨some 7, .mv (.t 67), none, []⟩]) (.seq (.reg false [⟨some 69, .mv (.t 0), none, []⟩, ⟨some 70, .nilck (.t 69), none, []⟩, ⟨some 71, .faddr 0 (.t 70), none, []⟩, ⟨some 72, .load false 1 (.t 71), none, []⟩, ⟨some 73, .mv (.t 7), none, []⟩, ⟨some 74, .ssl (.t 72) none (some (.t 73)), none, []⟩, ⟨some 75, .call 191 [.t 74], none, []⟩, ⟨some 68, .mv (.t 75), none, []⟩, ⟨some 76, .extract (.t 68) 0, none, []⟩, ⟨some 77, .extract (.t 68) 1, none, []⟩, ⟨some 8, .mv (.t 76), none, []⟩, ⟨some 9, .mv (.t 77), none, []⟩]) (.seq (.reg false [⟨some 78, .mv (.t 0), none, []⟩, ⟨some 79, .mv (.t 9), none, []⟩, ⟨some 80, .bin .neq (.t 79) (.c (.int .i64 0)), none, []⟩, ⟨some 81, .mv (.t 80), none, []⟩, ⟨some 82, .mv (.t 8), some (81, false), []⟩, ⟨some 83, .bin .lss (.t 82) (.c (.int .i64 0)), some (81, false), []⟩, ⟨some 84, .pick (.t 81) (.c (.bool true)) (.t 83), none, []⟩, ⟨some 85, .nilck (.t 78), none, []⟩, ⟨some 86, .faddr 1 (.t 85), none, []⟩, ⟨none, .store 1 (.t 86) (.t 84), none, []⟩]) (.seq (.reg false [⟨some 87, .mv (.t 8), none, []⟩, ⟨some 88, .build [.int .i64 0, .int .i64 0, .str []] [(0, 1, .c (.int .i64 1)), (1, 1, .t 87)], none, []⟩, ⟨none, .store 3 (.t 3) (.t 88), none, []⟩]) (.reg false [⟨some 89, .mv (.t 0), none, []⟩, ⟨some 90, .mv (.t 0), none, []⟩, ⟨some 91, .nilck (.t 90), none, []⟩, ⟨some 92, .faddr 0 (.t 91), none, []⟩, ⟨some 93, .load false 1 (.t 92), none, []⟩, ⟨some 94, .mv (.t 7), none, []⟩, ⟨some 95, .ssl (.t 93) (some (.t 94)) none, none, []⟩, ⟨some 96, .nilck (.t 89), none, []⟩, ⟨some 97, .faddr 0 (.t 96), none, []⟩, ⟨none, .store 1 (.t 97) (.t 95), none, []⟩]))))))) (.seq (.reg false [⟨some 98, .mv (.t 0), none, []⟩, ⟨some 99, .call 198 [.t 98, .c (.str [93])], none, []⟩]) (.seq (.reg false [⟨some 100, .load true 3 (.t 3), none, []⟩, ⟨none, .store 3 (.t 2) (.t 100), none, []⟩]) (.ret)))))), [.c 2 true 3]⟩
theorem h_rkey : AX.compFn Tryz.prog 200 = some c_rkey := by kernel_rfl
def c_rstep : AX.AFn := ⟨11, .seq (.reg false [⟨some 2, .alloc 251 [.str [], .int .i64 0, .int .i64 0, .str []], none, []⟩]) (.seq (.reg false [⟨some 4, .mv (.t 0), none, []⟩, ⟨some 5, .call 199 [.t 4], none, []⟩, ⟨some 6, .build [.str [], .int .i64 0, .int .i64 0, .str []] [(0, 1, .t 5)], none, []⟩, ⟨some 3, .alloc 251 [.str [], .int .i64 0, .int .i64 0, .str []], none, []⟩, ⟨none, .store 4 (.t 3) (.t 6), none, []⟩]) (.seq (.reg false [⟨some 7, .mv (.t 0), none, []⟩, ⟨some 8, .call 200 [.t 7], none, []⟩, ⟨some 9, .faddr 1 (.t 3), none, []⟩, ⟨none, .store 3 (.t 9) (.t 8), none, []⟩]) (.seq (.reg false [⟨some 10, .load true 4 (.t 3), none, []⟩, ⟨none, .store 4 (.t 2) (.t 10), none, []⟩]) (.ret)))), [.c 2 true 4]⟩
theorem h_rstep : AX.compFn Tryz.prog 197 = some c_rstep := by kernel_rfl

theorem glob_of {w : World} (g : GT w) : Glob w := ⟨g.tabs, g.tz⟩
theorem a_unquote (s : List UInt8) (hs : s.length ≤ 2000000) (h : Hp) : ACall Tryz.prog GT 246 [.str s] h fun r h' => r = .tup [.str (Str.unquote s).1, .int .i64 (Str.unquote s).2.1, .int .i64 (Str.unquote s).2.2] ∧ h' = h :=
  acall_imp (args1 r_str) (fun w hg => unquote_any ⟨s.toArray⟩ w (by rw [size_mk]; exact hs) (glob_of hg)) (fun C => rep_tup.2 ⟨_, rfl, repL_cons.2 ⟨_, _, rfl, rep_str.2 rfl, repL_cons.2 ⟨_, _, rfl, rep_int.2 rfl, repL_cons.2 ⟨_, _, rfl, rep_int.2 rfl, repL_nil.2 rfl⟩⟩⟩⟩) h
theorem a_quote (s : List UInt8) (hs : s.length ≤ 2000000) (h : Hp) : ACall Tryz.prog GT 247 [.str s] h fun r h' => r = .str (Str.quote s) ∧ h' = h :=
  acall_imp (args1 r_str) (fun w hg => quote_any ⟨s.toArray⟩ w (by rw [size_mk]; exact hs) (glob_of hg)) (fun C => rep_str.2 rfl) h
theorem pre_begins (s p : List UInt8) : (decide (p.length ≤ s.length) && s.take p.length == p) = Adr.begins s p := by
  unfold Adr.begins
  rw [Bool.eq_iff_iff, List.isPrefixOf_iff_prefix, List.prefix_iff_eq_take, Bool.and_eq_true, decide_eq_true_eq, beq_iff_eq]
  constructor
  · rintro ⟨h1, h2⟩; exact h2.symm
  · intro h2
    exact ⟨by have := congrArg List.length h2; rw [List.length_take] at this; omega, h2.symm⟩
theorem w_key (r : Adr.Rd) (hl : r.rest.length ≤ 2000000) {h : Hp} {i : Nat} (hb : h.b[i]? = some (adB r)) :
    ACall Tryz.prog GT 200 [.ptr i 0] h fun v h' => v = Adr.K.A (Adr.keyP r).1 ∧ h' = ⟨h.b.set i (adB (Adr.keyP r).2), h.t⟩ := by
  have key : ACall Tryz.prog GT 200 [.ptr 0 0] ⟨[adB r], []⟩ fun v h' => ∃ b', h'.b[0]? = some b' ∧ v = Adr.K.A (Adr.keyP r).1 ∧ b' = adB (Adr.keyP r).2 := by
    refine acall_of mixedT h_rkey (by simp [c_rkey]) ?_
    dsimp only [c_rkey]
    have hh := fun h hb => w_has [91] r (h := h) (i := 0) hb
    obtain ⟨Z, hZ⟩ : ∃ Z, Adr.keyP r = Z := ⟨_, rfl⟩
    rw [hZ]
    unfold Adr.keyP at hZ
    unfold Adr.hasP at hh
    unfold adB at hh ⊢
    obtain ⟨rest, bad⟩ := r
    dsimp only at hl hh hZ
    cases bad
    rotate_left
    · rw [if_pos rfl] at hZ
      subst hZ
      (refine AX.run0 True.intro ?_)
      exact ⟨_, le_refl _, _, rfl, rfl, rfl⟩
    rw [if_neg (by decide)] at hZ
    (refine AX.run0 True.intro ?_)
    refine use (hh _ rfl) ?_
    cases hB : Adr.begins rest [91]
    · rw [hB, if_pos rfl] at hZ
      subst hZ
      (refine AX.run0 True.intro ?_)
      exact ⟨_, le_refl _, _, rfl, rfl, rfl⟩
    rw [hB, if_neg (by decide)] at hZ
    obtain ⟨t, ht⟩ : ∃ t, rest.drop 1 = t := ⟨_, rfl⟩
    have ht1 : rest.drop [91].length = t := ht
    have htl : t.length ≤ 2000000 := by rw [← ht, List.length_drop]; omega
    rw [ht] at hZ
    have hp := fun h => a_hasPrefix t [34] h
    rw [pre_begins] at hp
    have hu := fun h => a_unquote t htl h
    have hsk := fun (q : Adr.Rd) h hb => w_skip [93] q (h := h) (i := 0) hb
    unfold adB at hsk
    (refine AX.run0 (And.intro ht1 ht) ?_)
    refine use (hp _) ?_
    cases hQ : Adr.begins t [34]
    · rw [hQ, if_neg (by decide)] at hZ
      (refine AX.run0 True.intro ?_)
      refine use (a_indexByte t _) ?_
      have hk := Adr.indexByte_key t
      obtain ⟨n, hn, hnle, hix⟩ : ∃ n : Nat, (if t.all (· != 93) then 0 else (t.takeWhile (· != 93)).length) = n ∧ n ≤ t.length ∧ (Lib.indexByte t 93 = (n : Int) ∨ (Lib.indexByte t 93 = -1 ∧ n = 0)) := by
        rcases hk with ⟨k1, k2⟩ | ⟨k1, k2, k3⟩
        · exact ⟨0, by rw [if_pos k1], Nat.zero_le _, .inr ⟨k2, rfl⟩⟩
        · exact ⟨_, by rw [k1, if_neg (by decide)], k3, .inl k2⟩
      rw [hn] at hZ
      have hmax : (if (0 : Int) > Lib.indexByte t 93 then 0 else Lib.indexByte t 93) = (n : Int) := by
        rcases hix with e | ⟨e, e2⟩
        · rw [e, if_neg (by omega)]
        · rw [e, e2]; rfl
      have htk : (t.take n).length ≤ 2000000 := by rw [List.length_take]; omega
      have hnp := fun h => a_numParse (t.take n) htk h
      have l0 : (0 : Int) ≤ (n : Int) := by omega
      have l1 : (n : Int) ≤ (t.length : Int) := by omega
      obtain ⟨⟨x, e⟩, hx⟩ : ∃ q, Num.parse (t.take n) = q := ⟨_, rfl⟩
      rw [hx] at hnp hZ
      dsimp only at hnp hZ
      (refine AX.run0 (And.intro hmax (And.intro l0 l1)) ?_)
      refine use (hnp _) ?_
      have hbad : ∃ b, (e != 0 || decide (x < 0)) = b := ⟨_, rfl⟩
      obtain ⟨b, hb⟩ := hbad
      rw [hb] at hZ
      subst hZ
      by_cases he : e = 0
      · have e1 : (e != 0) = false := by simp [he]
        rw [e1, Bool.false_or] at hb
        (refine AX.run0 (And.intro e1 (And.intro hb (And.intro l0 l1))) ?_)
        refine use (hsk ⟨t.drop n, b⟩ _ rfl) ?_
        (refine AX.run0 True.intro ?_)
        exact ⟨_, le_refl _, _, rfl, rfl, rfl⟩
      · have e1 : (e != 0) = true := by simp [he]
        rw [e1, Bool.true_or] at hb
        subst hb
        (refine AX.run0 (And.intro e1 (And.intro l0 l1)) ?_)
        refine use (hsk ⟨t.drop n, true⟩ _ rfl) ?_
        (refine AX.run0 True.intro ?_)
        exact ⟨_, le_refl _, _, rfl, rfl, rfl⟩
    · rw [hQ, if_pos rfl] at hZ
      (refine AX.run0 True.intro ?_)
      refine use (hu _) ?_
      have hw := Str.unquote_width t
      have hv := Str.unquote_valid t
      obtain ⟨⟨us, un, ue⟩, hue⟩ : ∃ q, Str.unquote t = q := ⟨_, rfl⟩
      rw [hue] at hZ hw hv ⊢
      dsimp only at hZ hw hv ⊢
      by_cases he : ue = 0
      rotate_left
      · have e1 : (ue != 0) = true := by simp [he]
        rw [if_pos (.inl he)] at hZ
        subst hZ
        (refine AX.run0 e1 ?_)
        exact ⟨_, le_refl _, _, rfl, rfl, rfl⟩
      have e1 : (ue != 0) = false := by simp [he]
      have hul : us.length ≤ 2000000 := by
        have := hv he
        unfold Str.valid at this
        rw [Bool.and_eq_true, decide_eq_true_eq] at this
        omega
      have l1 : (un : Int) ≤ (t.length : Int) := by have := hw he; omega
      have l0 : (0 : Int) ≤ (un : Int) := by omega
      (refine AX.run0 (And.intro e1 (And.intro l0 l1)) ?_)
      refine use (a_quote us hul _) ?_
      cases hne : Str.quote us != t.take un
      · rw [if_neg (by rintro (h | h); exact h he; rw [bne_eq_false_iff_eq] at hne; exact h hne)] at hZ
        subst hZ
        (refine AX.run0 (And.intro e1 (And.intro hne (And.intro l0 l1))) ?_)
        refine use (hsk ⟨t.drop un, false⟩ _ rfl) ?_
        (refine AX.run0 True.intro ?_)
        exact ⟨_, le_refl _, _, rfl, rfl, rfl⟩
      · rw [if_pos (.inr (bne_iff_ne.1 hne))] at hZ
        subst hZ
        (refine AX.run0 (And.intro e1 (And.intro hne (And.intro l0 l1))) ?_)
        exact ⟨_, le_refl _, _, rfl, rfl, rfl⟩
  refine (ACall.lift1 key rfl (adB_loc r) ?_ hb).mono ?_
  · rintro v b' ⟨rfl, rfl⟩; exact ⟨rfl, adB_loc _⟩
  · rintro v h' ⟨b', ⟨rfl, rfl⟩, rfl⟩; exact ⟨rfl, rfl⟩
end AX
end Go.Proofs.YtkhhnkceiibmfaaGreatDoor

namespace Go.Proofs.YtkhhnkceiibmfaaGreatDoor
open Go.RowKit
set_option linter.unusedSimpArgs false
set_option linter.unusedVariables false
set_option maxHeartbeats 4000000
namespace Adr
theorem has_len (p : List UInt8) (r : Rd) : (hasP p r).2.rest.length ≤ r.rest.length := by
  unfold hasP; split
  · rw [List.length_drop]; omega
  · exact Nat.le_refl _
theorem has_less (p : List UInt8) (r : Rd) (h : begins r.rest p = true) : (hasP p r).2.rest.length + p.length = r.rest.length := by
  have := begins_len h
  unfold hasP; rw [if_pos h]; dsimp only; rw [List.length_drop]; omega
theorem takeW_len {p : UInt8 → Bool} (s : List UInt8) : (s.takeWhile p).length ≤ s.length := List.Sublist.length_le (List.takeWhile_sublist p)
theorem dropW_len {p : UInt8 → Bool} (s : List UInt8) : (s.dropWhile p).length ≤ s.length := List.Sublist.length_le (List.dropWhile_sublist p)
theorem word_len (r : Rd) : (wordP r).2.rest.length ≤ r.rest.length ∧ (wordP r).1.length ≤ r.rest.length := ⟨dropW_len _, takeW_len _⟩
theorem skip_len (p : List UInt8) (r : Rd) : (skipP p r).rest.length ≤ r.rest.length := by
  unfold skipP; split
  · dsimp only; rw [List.length_drop]; omega
  · exact Nat.le_refl _
theorem key_len (r : Rd) : (keyP r).2.rest.length ≤ r.rest.length := by
  unfold keyP
  split
  · exact Nat.le_refl _
  · split
    · exact Nat.le_refl _
    · dsimp only
      split
      · split
        · dsimp only; rw [List.length_drop]; omega
        · refine Nat.le_trans (skip_len _ _) ?_
          dsimp only; rw [List.length_drop, List.length_drop]; omega
      · refine Nat.le_trans (skip_len _ _) ?_
        dsimp only; rw [List.length_drop, List.length_drop]; omega
theorem step_len (r : Rd) : (stepP r).2.rest.length ≤ r.rest.length := Nat.le_trans (key_len _) (word_len r).1
end Adr
namespace AX
def c_aparse : AX.AFn := ⟨65, .seq (.reg false [⟨some 2, .alloc 204 [.sl 0 .nil [], .bool false, .str [], .str [], .int .i64 0, .int .i64 0, .str []], none, []⟩, ⟨some 3, .mv (.c (.int .i64 0)), none, []⟩]) (.seq (.reg false [⟨some 6, .mv (.t 0), none, []⟩, ⟨some 7, .build [.str [], .bool false] [(0, 1, .t 6)], none, []⟩, ⟨some 8, .box 249 (.t 7), none, []⟩, ⟨some 4, .mv (.t 8), none, []⟩]) (.seq (.reg false [⟨some 5, .alloc 204 [.sl 0 .nil [], .bool false, .str [], .str [], .int .i64 0, .int .i64 0, .str []], none, []⟩]) (.seq (.block 0 (.loop (.seq (.seq (.reg false [⟨some 9, .mv (.t 4), none, []⟩, ⟨some 10, .nilck (.t 9), none, []⟩, ⟨some 11, .faddr 1 (.t 10), none, []⟩, ⟨some 12, .load false 1 (.t 11), none, []⟩, ⟨some 13, .un .not (.t 12), none, []⟩, ⟨some 14, .mv (.t 13), none, []⟩, ⟨some 15, .mv (.t 4), some (14, true), []⟩, ⟨some 16, .call 196 [.t 15, .c (.str [109, 111, 100, 117, 108, 101, 46])], some (14, true), []⟩, ⟨some 17, .pick (.t 14) (.t 16) (.c (.bool false)), none, []⟩]) (.cond (.t 17) (.skip) (.exit 0))) (.block 1 (.seq (.reg true [⟨some 18, .faddr 0 (.t 5), none, []⟩, ⟨some 19, .load false 1 (.t 18), none, [0]⟩, ⟨some 20, .mv (.t 4), none, []⟩, ⟨some 21, .call 197 [.t 20], none, [2]⟩, ⟨some 22, .mks 4 [.t 21], none, [3]⟩, ⟨some 23, .app 251 4 48 (.t 19) (.t 22), none, [1, 4, 3]⟩, ⟨some 24, .faddr 0 (.t 5), none, [0, 1, 2, 3, 4, 5]⟩, ⟨none, .store 1 (.t 24) (.t 23), none, [6, 5, 5, 0, 1, 2, 3, 4, 5]⟩]) (.reg false [⟨some 25, .mv (.t 4), none, []⟩, ⟨some 26, .call 198 [.t 25, .c (.str [46])], none, []⟩])))))) (.seq (.reg false [⟨some 27, .mv (.t 4), none, []⟩, ⟨some 28, .call 196 [.t 27, .c (.str [100, 97, 116, 97, 46])], none, []⟩, ⟨some 29, .faddr 1 (.t 5), none, []⟩, ⟨none, .store 1 (.t 29) (.t 28), none, []⟩]) (.seq (.reg false [⟨some 30, .mv (.t 4), none, []⟩, ⟨some 31, .call 199 [.t 30], none, []⟩, ⟨some 32, .faddr 2 (.t 5), none, []⟩, ⟨none, .store 1 (.t 32) (.t 31), none, []⟩]) (.seq (.reg false [⟨some 33, .mv (.t 4), none, []⟩, ⟨some 34, .call 198 [.t 33, .c (.str [46])], none, []⟩]) (.seq (.reg false [⟨some 35, .mv (.t 4), none, []⟩, ⟨some 36, .call 199 [.t 35], none, []⟩, ⟨some 37, .faddr 3 (.t 5), none, []⟩, ⟨none, .store 1 (.t 37) (.t 36), none, []⟩]) (.seq (.reg false [⟨some 38, .mv (.t 4), none, []⟩, ⟨some 39, .call 200 [.t 38], none, []⟩, ⟨some 40, .faddr 4 (.t 5), none, []⟩, ⟨none, .store 3 (.t 40) (.t 39), none, []⟩]) (.seq (.seq (.reg false [⟨some 41, .mv (.t 4), none, []⟩, ⟨some 42, .nilck (.t 41), none, []⟩, ⟨some 43, .faddr 1 (.t 42), none, []⟩, ⟨some 44, .load false 1 (.t 43), none, []⟩, ⟨some 45, .mv (.t 44), none, []⟩, ⟨some 46, .mv (.t 4), some (45, false), []⟩, ⟨some 47, .nilck (.t 46), some (45, false), []⟩, ⟨some 48, .faddr 0 (.t 47), some (45, false), []⟩, ⟨some 49, .load false 1 (.t 48), some (45, false), []⟩, ⟨some 50, .bin .neq (.t 49) (.c (.str [])), some (45, false), []⟩, ⟨some 51, .pick (.t 45) (.c (.bool true)) (.t 50), none, []⟩, ⟨some 52, .mv (.t 51), none, []⟩, ⟨some 53, .faddr 2 (.t 5), some (52, false), []⟩, ⟨some 54, .load false 1 (.t 53), some (52, false), []⟩, ⟨some 55, .call 201 [.t 54], some (52, false), []⟩, ⟨some 56, .un .not (.t 55), some (52, false), []⟩, ⟨some 57, .pick (.t 52) (.c (.bool true)) (.t 56), none, []⟩]) (.cond (.t 57) (.seq (.reg false [⟨some 58, .build [.sl 0 .nil [], .bool false, .str [], .str [], .int .i64 0, .int .i64 0, .str []] [], none, []⟩, ⟨none, .store 7 (.t 2) (.t 58), none, []⟩, ⟨some 3, .mv (.c (.int .i64 2)), none, []⟩]) (.ret)) (.skip))) (.seq (.seq (.reg false [⟨some 59, .faddr 0 (.t 5), none, []⟩, ⟨some 60, .load false 1 (.t 59), none, []⟩, ⟨some 61, .len false (.t 60), none, []⟩, ⟨some 62, .bin .gtr (.t 61) (.c (.int .i64 16)), none, []⟩]) (.cond (.t 62) (.seq (.reg false [⟨some 63, .build [.sl 0 .nil [], .bool false, .str [], .str [], .int .i64 0, .int .i64 0, .str []] [], none, []⟩, ⟨none, .store 7 (.t 2) (.t 63), none, []⟩, ⟨some 3, .mv (.c (.int .i64 4)), none, []⟩]) (.ret)) (.skip))) (.seq (.reg false [⟨some 64, .load true 7 (.t 5), none, []⟩, ⟨none, .store 7 (.t 2) (.t 64), none, []⟩, ⟨some 3, .mv (.c (.int .i64 0)), none, []⟩]) (.ret)))))))))))), [.c 2 true 7, .t 3]⟩
theorem h_aparse : AX.compFn Tryz.prog 150 = some c_aparse := by kernel_rfl

theorem w_step (r : Adr.Rd) (hl : r.rest.length ≤ 2000000) {h : Hp} {i : Nat} (hb : h.b[i]? = some (adB r)) :
    ACall Tryz.prog GT 197 [.ptr i 0] h fun v h' => v = .agg (Adr.stepP r).1.cells ∧ h' = ⟨h.b.set i (adB (Adr.stepP r).2), h.t⟩ := by
  have key : ACall Tryz.prog GT 197 [.ptr 0 0] ⟨[adB r], []⟩ fun v h' => ∃ b', h'.b[0]? = some b' ∧ v = .agg (Adr.stepP r).1.cells ∧ b' = adB (Adr.stepP r).2 := by
    refine acall_of mixedT h_rstep (by simp [c_rstep]) ?_
    dsimp only [c_rstep]
    have hw := fun h hb => w_word r hl (h := h) (i := 0) hb
    have hk := fun h hb => w_key (Adr.wordP r).2 (Nat.le_trans (Adr.word_len r).1 hl) (h := h) (i := 0) hb
    have hS : Adr.stepP r = (⟨(Adr.wordP r).1, (Adr.keyP (Adr.wordP r).2).1⟩, (Adr.keyP (Adr.wordP r).2).2) := rfl
    rw [hS]
    obtain ⟨⟨w, r1⟩, h1⟩ : ∃ q, Adr.wordP r = q := ⟨_, rfl⟩
    rw [h1] at hw hk ⊢
    dsimp only at hw hk ⊢
    obtain ⟨⟨⟨kd, kn, ks⟩, r2⟩, h2⟩ : ∃ q, Adr.keyP r1 = q := ⟨_, rfl⟩
    rw [h2] at hk ⊢
    dsimp only [Adr.K.A] at hk ⊢
    unfold adB at hw hk ⊢
    (refine AX.run0 True.intro ?_)
    refine use (hw _ rfl) ?_
    (refine AX.run0 True.intro ?_)
    refine use (hk _ rfl) ?_
    (refine AX.run0 True.intro ?_)
    exact ⟨_, le_refl _, _, rfl, rfl, rfl⟩
  refine (ACall.lift1 key rfl (adB_loc r) ?_ hb).mono ?_
  · rintro v b' ⟨rfl, rfl⟩; exact ⟨rfl, adB_loc _⟩
  · rintro v h' ⟨b', ⟨rfl, rfl⟩, rfl⟩; exact ⟨rfl, rfl⟩
theorem a_parse (s : List UInt8) (hs : s.length ≤ 2000000) (h : Hp) : ACall Tryz.prog GT 150 [.str s] h fun r h' => r = .tup [.agg (Adr.parse s).1.cells, .int .i64 (Adr.parse s).2] ∧ h' = h := by
  rw [← Adr.parse_eq]
  refine pcall ?_ rfl (by simp [A.pure, A.data]) h
  refine acall_of mixedT h_aparse (by simp [c_aparse]) ?_
  dsimp only [c_aparse]
  obtain ⟨⟨M, RM⟩, hM⟩ : ∃ q, Adr.modsP (s.length + 1) ⟨s, false⟩ [] = q := ⟨_, rfl⟩
  obtain ⟨F, hF⟩ : ∃ F, Adr.parseP s = F := ⟨_, rfl⟩
  rw [hF]
  unfold Adr.parseP at hF
  rw [hM] at hF
  dsimp only at hF
  (refine AX.run0 True.intro ?_)
  refine awp_loop (fun mm ts h => ∃ (r : Adr.Rd) (l : List Adr.Step) (W : Nat) (o : Own) (t : List (TypeId × Nat × Nat)), r.rest.length < mm ∧ mm + l.length = s.length + 1 ∧ Adr.modsP mm r l = (M, RM) ∧
    h = ⟨[.cells 204 [.sl 0 .nil [], .bool false, .str [], .str [], .int .i64 0, .int .i64 0, .str []], .cells 249 [.str r.rest, .bool r.bad], .cells 204 [.sl W o (l.map Adr.Step.cells), .bool false, .str [], .str [], .int .i64 0, .int .i64 0, .str []]], t⟩ ∧
    Gs 251 4 0 ⟨[], t⟩ (l.map Adr.Step.cells) (.sl W o (l.map Adr.Step.cells)) ∧ ts 2 = .ptr 0 0 ∧ ts 3 = .int .i64 0 ∧ ts 4 = .ptr 1 0 ∧ ts 5 = .ptr 2 0) (s.length + 1) ?_ ?_
  · exact ⟨⟨s, false⟩, [], 0, .nil, [], by dsimp only; omega, by simp, hM, rfl, .inl ⟨rfl, rfl⟩, by (exact AX.ev0 True.intro), by (exact AX.ev0 True.intro), by (exact AX.ev0 True.intro), by (exact AX.ev0 True.intro)⟩
  rintro mm ts h ⟨r, l, W, o, t, hrm, hml, hmod, rfl, gX, t2, t3, t4, t5⟩
  cases mm with
  | zero => omega
  | succ f =>
  unfold Adr.modsP at hmod
  by_cases hgo : r.bad = false ∧ Adr.begins r.rest Adr.modW = true
  · rw [if_pos hgo] at hmod
    have hmw : Adr.modW = [109, 111, 100, 117, 108, 101, 46] := rfl
    have cH := fun h hb => w_has Adr.modW r (h := h) (i := 1) hb
    have l1 := Adr.has_less Adr.modW r hgo.2
    have hh1 : (Adr.hasP Adr.modW r).1 = true := by unfold Adr.hasP; rw [if_pos hgo.2]
    rw [hh1] at cH
    have l7 : Adr.modW.length = 7 := rfl
    have hr0 : r.bad = false := hgo.1
    obtain ⟨r1, hr1⟩ : ∃ q, (Adr.hasP Adr.modW r).2 = q := ⟨_, rfl⟩
    rw [hr1] at cH l1 hmod
    have cS := fun h hb => w_step r1 (by omega) (h := h) (i := 1) hb
    have l2 := Adr.step_len r1
    obtain ⟨⟨⟨nm, ⟨kd, kn, ks⟩⟩, r2⟩, hr2⟩ : ∃ q, Adr.stepP r1 = q := ⟨_, rfl⟩
    rw [hr2] at cS l2 hmod
    dsimp only [Adr.Step.cells] at cS l2 hmod
    have cK := fun h hb => w_skip [46] r2 (h := h) (i := 1) hb
    have l3 := Adr.skip_len [46] r2
    obtain ⟨r3, hr3⟩ : ∃ q, Adr.skipP [46] r2 = q := ⟨_, rfl⟩
    rw [hr3] at cK l3 hmod
    unfold adB at cH cS cK
    rw [hmw] at cH
    rw [hr0] at cH
    obtain ⟨W', o', t', hX, gX', _⟩ := gX.grow 48 [.str nm, .int .i64 kd, .int .i64 kn, .str ks] (by rw [List.length_map]; omega) (by decide)
    have hcat : l.map Adr.Step.cells ++ [[.str nm, .int .i64 kd, .int .i64 kn, .str ks]] = (l ++ [(⟨nm, ⟨kd, kn, ks⟩⟩ : Adr.Step)]).map Adr.Step.cells := by rw [List.map_append]; rfl
    rw [hcat] at gX'
    simp only [hcat] at hX
    rw [hr0]
    (refine AX.run0 (And.intro t2 (And.intro t3 (And.intro t4 t5))) ?_)
    refine use (cH _ rfl) ?_
    (refine AX.run0 (And.intro t2 (And.intro t3 (And.intro t4 t5))) ?_)
    refine use (cS _ rfl) ?_
    (refine AX.run0 (And.intro t2 (And.intro t3 (And.intro t4 (And.intro t5 hX)))) ?_)
    refine use (cK _ rfl) ?_
    (refine AX.run0 (And.intro t2 (And.intro t3 (And.intro t4 t5))) ?_)
    exact ⟨f, by omega, r3, l ++ [(⟨nm, ⟨kd, kn, ks⟩⟩ : Adr.Step)], W', o', t', by omega, by simp; omega, hmod, rfl, gX', by (exact AX.ev0 t2), by (exact AX.ev0 t3), by (exact AX.ev0 t4), by (exact AX.ev0 t5)⟩
  · rw [if_neg hgo] at hmod
    injection hmod with hm1 hm2
    subst hm1; subst hm2
    have cD := fun h hb => w_has Adr.dataW r (h := h) (i := 1) hb
    have l1 := Adr.has_len Adr.dataW r
    obtain ⟨⟨dt, r1⟩, hr1⟩ : ∃ q, Adr.hasP Adr.dataW r = q := ⟨_, rfl⟩
    rw [hr1] at cD l1 hF
    dsimp only at cD l1 hF
    have cT := fun h hb => w_word r1 (by omega) (h := h) (i := 1) hb
    have l2 := Adr.word_len r1
    obtain ⟨⟨ty, r2⟩, hr2⟩ : ∃ q, Adr.wordP r1 = q := ⟨_, rfl⟩
    rw [hr2] at cT l2 hF
    dsimp only at cT l2 hF
    have cK := fun h hb => w_skip [46] r2 (h := h) (i := 1) hb
    have l3 := Adr.skip_len [46] r2
    obtain ⟨r3, hr3⟩ : ∃ q, Adr.skipP [46] r2 = q := ⟨_, rfl⟩
    rw [hr3] at cK l3 hF
    have cN := fun h hb => w_word r3 (by omega) (h := h) (i := 1) hb
    have l4 := Adr.word_len r3
    obtain ⟨⟨na, r4⟩, hr4⟩ : ∃ q, Adr.wordP r3 = q := ⟨_, rfl⟩
    rw [hr4] at cN l4 hF
    dsimp only at cN l4 hF
    have cY := fun h hb => w_key r4 (by omega) (h := h) (i := 1) hb
    have l5 := Adr.key_len r4
    obtain ⟨⟨⟨kd, kn, ks⟩, ⟨re, ba⟩⟩, hr5⟩ : ∃ q, Adr.keyP r4 = q := ⟨_, rfl⟩
    rw [hr5] at cY l5 hF
    dsimp only [Adr.K.A] at cY l5 hF
    have ck := fun h => a_kind ty (by omega) h
    unfold adB at cD cT cK cN cY
    have hdw : Adr.dataW = [100, 97, 116, 97, 46] := rfl
    rw [hdw] at cD
    have start : ∀ {G : Prop}, (r.bad = true → G) → (r.bad = false → Adr.begins r.rest Adr.modW = false → G) → G := fun p q => by
      cases hb : r.bad
      · refine q hb ?_
        cases hB : Adr.begins r.rest Adr.modW
        · rfl
        · exact absurd ⟨hb, hB⟩ hgo
      · exact p hb
    have lx := Gs.le gX
    refine start (fun hb => ?_) (fun hb hB => ?_)
    · rw [hb] at cD ⊢
      (refine AX.run0 (And.intro t2 (And.intro t3 (And.intro t4 t5))) ?_)
      refine use (cD _ rfl) ?_
      (refine AX.run0 (And.intro t2 (And.intro t3 (And.intro t4 t5))) ?_)
      refine use (cT _ rfl) ?_
      (refine AX.run0 (And.intro t2 (And.intro t3 (And.intro t4 t5))) ?_)
      refine use (cK _ rfl) ?_
      (refine AX.run0 (And.intro t2 (And.intro t3 (And.intro t4 t5))) ?_)
      refine use (cN _ rfl) ?_
      (refine AX.run0 (And.intro t2 (And.intro t3 (And.intro t4 t5))) ?_)
      refine use (cY _ rfl) ?_
      have zle : leL [.sl 0 .nil [], .bool false, .str [], .str [], .int .i64 0, .int .i64 0, .str []] Adr.Ad.zero.cells := ⟨⟨rfl, .inr rfl, .inl rfl⟩, rfl, rfl, rfl, rfl, rfl, rfl, trivial⟩
      cases ba
      rotate_left
      · rw [if_pos (.inl rfl)] at hF
        subst hF
        (refine AX.run0 (And.intro t2 (And.intro t3 (And.intro t4 t5))) ?_)
        exact ⟨.tup [.agg Adr.Ad.zero.cells, .int .i64 2], ⟨zle, rfl, trivial⟩, rfl⟩
      cases hre : re != []
      rotate_left
      · rw [if_pos (.inr (.inl (bne_iff_ne.1 hre)))] at hF
        subst hF
        (refine AX.run0 (And.intro t2 (And.intro t3 (And.intro t4 (And.intro t5 hre)))) ?_)
        exact ⟨.tup [.agg Adr.Ad.zero.cells, .int .i64 2], ⟨zle, rfl, trivial⟩, rfl⟩
      (refine AX.run0 (And.intro t2 (And.intro t3 (And.intro t4 (And.intro t5 hre)))) ?_)
      refine use (ck _) ?_
      cases hkb : Adr.kindB ty
      · rw [if_pos (.inr (.inr hkb))] at hF
        subst hF
        (refine AX.run0 (And.intro t2 (And.intro t3 (And.intro t4 t5))) ?_)
        exact ⟨.tup [.agg Adr.Ad.zero.cells, .int .i64 2], ⟨zle, rfl, trivial⟩, rfl⟩
      rw [if_neg (by rintro (h | h | h); cases h; rw [bne_eq_false_iff_eq] at hre; exact h hre; rw [hkb] at h; cases h)] at hF
      have lm : (l.map Adr.Step.cells).length = l.length := List.length_map ..
      by_cases hlen : (l.length : Int) > 16
      · rw [if_pos (by omega)] at hF
        subst hF
        (refine AX.run0 (And.intro t2 (And.intro t3 (And.intro t4 (And.intro t5 (And.intro lm hlen))))) ?_)
        exact ⟨.tup [.agg Adr.Ad.zero.cells, .int .i64 4], ⟨zle, rfl, trivial⟩, rfl⟩
      · rw [if_neg (by omega)] at hF
        subst hF
        (refine AX.run0 (And.intro t2 (And.intro t3 (And.intro t4 (And.intro t5 (And.intro lm hlen))))) ?_)
        exact ⟨.tup [.agg (Adr.Ad.cells ⟨l, dt, ty, na, ⟨kd, kn, ks⟩⟩), .int .i64 0], ⟨⟨lx, rfl, rfl, rfl, rfl, rfl, rfl, trivial⟩, rfl, trivial⟩, rfl⟩
    · rw [hb] at cD ⊢
      have cH := fun h hb => w_has Adr.modW r (h := h) (i := 1) hb
      have hh1 : Adr.hasP Adr.modW r = (false, r) := by unfold Adr.hasP; rw [hB, if_neg (by decide)]
      have hmw : Adr.modW = [109, 111, 100, 117, 108, 101, 46] := rfl
      rw [hh1, hmw] at cH
      unfold adB at cH
      rw [hb] at cH
      (refine AX.run0 (And.intro t2 (And.intro t3 (And.intro t4 t5))) ?_)
      refine use (cH _ rfl) ?_
      (refine AX.run0 (And.intro t2 (And.intro t3 (And.intro t4 t5))) ?_)
      refine use (cD _ rfl) ?_
      (refine AX.run0 (And.intro t2 (And.intro t3 (And.intro t4 t5))) ?_)
      refine use (cT _ rfl) ?_
      (refine AX.run0 (And.intro t2 (And.intro t3 (And.intro t4 t5))) ?_)
      refine use (cK _ rfl) ?_
      (refine AX.run0 (And.intro t2 (And.intro t3 (And.intro t4 t5))) ?_)
      refine use (cN _ rfl) ?_
      (refine AX.run0 (And.intro t2 (And.intro t3 (And.intro t4 t5))) ?_)
      refine use (cY _ rfl) ?_
      have zle : leL [.sl 0 .nil [], .bool false, .str [], .str [], .int .i64 0, .int .i64 0, .str []] Adr.Ad.zero.cells := ⟨⟨rfl, .inr rfl, .inl rfl⟩, rfl, rfl, rfl, rfl, rfl, rfl, trivial⟩
      cases ba
      rotate_left
      · rw [if_pos (.inl rfl)] at hF
        subst hF
        (refine AX.run0 (And.intro t2 (And.intro t3 (And.intro t4 t5))) ?_)
        exact ⟨.tup [.agg Adr.Ad.zero.cells, .int .i64 2], ⟨zle, rfl, trivial⟩, rfl⟩
      cases hre : re != []
      rotate_left
      · rw [if_pos (.inr (.inl (bne_iff_ne.1 hre)))] at hF
        subst hF
        (refine AX.run0 (And.intro t2 (And.intro t3 (And.intro t4 (And.intro t5 hre)))) ?_)
        exact ⟨.tup [.agg Adr.Ad.zero.cells, .int .i64 2], ⟨zle, rfl, trivial⟩, rfl⟩
      (refine AX.run0 (And.intro t2 (And.intro t3 (And.intro t4 (And.intro t5 hre)))) ?_)
      refine use (ck _) ?_
      cases hkb : Adr.kindB ty
      · rw [if_pos (.inr (.inr hkb))] at hF
        subst hF
        (refine AX.run0 (And.intro t2 (And.intro t3 (And.intro t4 t5))) ?_)
        exact ⟨.tup [.agg Adr.Ad.zero.cells, .int .i64 2], ⟨zle, rfl, trivial⟩, rfl⟩
      rw [if_neg (by rintro (h | h | h); cases h; rw [bne_eq_false_iff_eq] at hre; exact h hre; rw [hkb] at h; cases h)] at hF
      have lm : (l.map Adr.Step.cells).length = l.length := List.length_map ..
      by_cases hlen : (l.length : Int) > 16
      · rw [if_pos (by omega)] at hF
        subst hF
        (refine AX.run0 (And.intro t2 (And.intro t3 (And.intro t4 (And.intro t5 (And.intro lm hlen))))) ?_)
        exact ⟨.tup [.agg Adr.Ad.zero.cells, .int .i64 4], ⟨zle, rfl, trivial⟩, rfl⟩
      · rw [if_neg (by omega)] at hF
        subst hF
        (refine AX.run0 (And.intro t2 (And.intro t3 (And.intro t4 (And.intro t5 (And.intro lm hlen))))) ?_)
        exact ⟨.tup [.agg (Adr.Ad.cells ⟨l, dt, ty, na, ⟨kd, kn, ks⟩⟩), .int .i64 0], ⟨⟨lx, rfl, rfl, rfl, rfl, rfl, rfl, trivial⟩, rfl, trivial⟩, rfl⟩
end AX
end Go.Proofs.YtkhhnkceiibmfaaGreatDoor

namespace Go.Proofs.YtkhhnkceiibmfaaGreatDoor
open Go.RowKit
set_option linter.unusedSimpArgs false
set_option linter.unusedVariables false
namespace AX
section
variable {P : Program} {G : World → Prop} {C : Ctx} {h : Hp}
/-- A row that a call made, as a box. -/
theorem new_row {w' : World} {g : Nat} {T : TypeId} {l : List A} {cs rest : List Value} (hI : Inv G C h) (hb : Below C.w.heap.size C.w w') (hg : C.w.heap.size ≤ g) (hh : w'.heap[g]? = some (.cells (cs ++ rest).toArray T (0, 0))) (hl : RepL C l cs) :
    ∃ C' : Ctx, C'.w = w' ∧ Inv G C' ⟨h.b ++ [.row T l], h.t⟩ ∧ Step C C' ∧ C'.κ h.b.length = g ∧ h.b.length < C'.nb := by
  have hglt : g < w'.heap.size := (Array.getElem?_eq_some_iff.1 hh).1
  let C' : Ctx := { C with w := w', κ := fun i => if i = C.nb then g else C.κ i, nb := C.nb + 1, own := fun k => if k = g then some C.nb else C.own k }
  have hblk : ∀ k, k < C.w.heap.size → C'.w.heap[k]? = C.w.heap[k]? := fun k hk => hb.block k hk
  have hsz : C.w.heap.size ≤ C'.w.heap.size := hb.size
  have hE : Ext C C' := by
    refine ⟨fun k j hs => ⟨hs, cell_of_block (hblk k (hI.prot k j hs).1)⟩, Nat.le_succ _, fun i hi => ?_, fun t E W m ht => ?_⟩
    · show (if i = C.nb then g else C.κ i) = C.κ i
      rw [if_neg (by omega)]
    · obtain ⟨_, _, cap, h1, _⟩ := hI.rows t E W m ht
      exact ⟨m, ht, .inr ⟨rfl, rfl, fun cap hc => hc.same (hblk _ h1.lt)⟩⟩
  have hown : ∀ k, k < C.w.heap.size → C'.own k = C.own k := fun k hk => by
    show (if k = g then some C.nb else C.own k) = _
    rw [if_neg (by omega)]
  have hown' : ∀ k i, i < C.nb → (C'.own k = some i ↔ C.own k = some i) := fun k i hi => by
    show (if k = g then some C.nb else C.own k) = some i ↔ _
    split
    · next e => exact ⟨fun e => by injection e with e; omega, fun e' => by have := (hI.ownlt k i e').2.1; omega⟩
    · exact Iff.rfl
  refine ⟨C', rfl, ⟨?_, fun i b hib => ?_, fun i hi => ?_, fun k i hk => ?_, fun k j hs => ?_, fun t E W m ht => ?_, hI.inj, hI.toks, ?_, fun w2 hw2 => ?_⟩, ⟨hE, hb.os, hb.tape, hb.output, hsz, rfl, fun k hk _ _ => hblk k hk, hown, fun k j hs => .inl hs, fun t ht => .inr ⟨ht, rfl⟩⟩, ?_⟩
  · show (h.b ++ [Blk.row T l]).length = C.nb + 1
    rw [List.length_append, hI.nb]; rfl
  · rw [List.getElem?_append] at hib
    split at hib
    · next hi =>
      have hi' : i < C.nb := by rw [← hI.nb]; exact hi
      exact (hI.box i b hib).ext hE hi' (hI.ownk i hi') (fun k j hk => (hI.ownlt k j hk).2.1) (fun k hk => hblk k (hI.ownlt k i hk).2.1) (fun k => hown' k i hi') hsz
    · next hi =>
      have hk : i - h.b.length = 0 := by
        rcases Nat.eq_zero_or_pos (i - h.b.length) with e | e
        · exact e
        · rw [List.getElem?_eq_none (by simp only [List.length_cons, List.length_nil]; omega)] at hib; cases hib
      rw [hk] at hib
      simp only [List.getElem?_cons_zero, Option.some.injEq] at hib
      subst hib
      have hi' : i = C.nb := by have := hI.nb; omega
      refine ⟨cs, rest, ?_, RepL.ext hE l cs hl⟩
      show w'.heap[if i = C.nb then g else C.κ i]? = _
      rw [if_pos hi']
      exact hh
  · show (if (if i = C.nb then g else C.κ i) = g then some C.nb else C.own (if i = C.nb then g else C.κ i)) = some i
    by_cases hi' : i = C.nb
    · rw [if_pos hi', if_pos rfl, hi']
    · have hi2 : i < C.nb := by have : i < C.nb + 1 := hi; omega
      have := (hI.ownlt _ _ (hI.ownk i hi2)).2.1
      rw [if_neg hi', if_neg (by omega)]
      exact hI.ownk i hi2
  · have hk' : (if k = g then some C.nb else C.own k) = some i := hk
    split at hk'
    · next e =>
      injection hk' with hk'
      exact ⟨by show i < C.nb + 1; omega, by rw [e]; exact hglt, by rw [e]; have := hI.base; show C.base ≤ g; omega⟩
    · obtain ⟨k1, k2, k3⟩ := hI.ownlt k i hk'
      exact ⟨by show i < C.nb + 1; omega, by omega, k3⟩
  · obtain ⟨k1, k2, k3⟩ := hI.prot k j hs
    exact ⟨by omega, (hown k k1).trans k2, k3⟩
  · obtain ⟨k1, k2, cap, k3, k4⟩ := hI.rows t E W m ht
    exact ⟨(hown _ k3.lt).trans k1, k2, cap, k3.same (hblk _ k3.lt), k4⟩
  · show C.base ≤ C'.w.heap.size
    have := hI.base; omega
  · exact hI.glob w2 fun k hk => (hw2 k hk).trans (hblk k (Nat.lt_of_lt_of_le hk hI.base))
  · refine ⟨?_, by show h.b.length < C.nb + 1; have := hI.nb; omega⟩
    show (if h.b.length = C.nb then g else C.κ h.b.length) = _
    rw [if_pos hI.nb]
/-- A value, the rows in it that may be written taken as they stand. -/
def Fz1 (h : Hp) (x y : A) : Prop := (x = y ∧ x.data = true) ∨ ∃ i W T rows, x = .bs i W rows.length ∧ h.b[i]? = some (.row T rows.flatten) ∧ y = .sl W .no rows ∧ (∀ r ∈ rows, r.length = W) ∧ rows.flatten.all A.data = true
def FzL (h : Hp) : List A → List A → Prop
  | [], [] => True
  | x :: l, y :: m => Fz1 h x y ∧ FzL h l m
  | _, _ => False
theorem FzL.data {h : Hp} : ∀ {l m : List A}, FzL h l m → m.all A.data = true
  | [], [], _ => rfl
  | x :: l, y :: m, hf => by
    rw [List.all_cons, Bool.and_eq_true]
    refine ⟨?_, FzL.data hf.2⟩
    rcases hf.1 with ⟨rfl, hd⟩ | ⟨i, W, T, rows, _, _, rfl, _, _⟩
    · exact hd
    · rfl
  | [], _ :: _, hf => hf.elim
  | _ :: _, [], hf => hf.elim
/-- A call without boxes that returns a struct; the rows that it made and returns are frozen. -/
theorem pcallz {f : FuncId} {args : List A} {ys : List A} (hc : ACall P G f args ⟨[], []⟩ fun v h' => ∃ xs, v = .agg xs ∧ FzL h' xs ys) (ha : args.all A.pure = true) (h : Hp) : ACall P G f args h fun v h' => v = .agg ys ∧ h' = h := by
  intro C cs hI hr
  have hid : Inv G C.hid ⟨[], []⟩ := by
    refine ⟨rfl, fun i b hb => by simp at hb, fun i hi => by simp [Ctx.hid] at hi, fun g i hg => by simp [Ctx.hid] at hg, fun g j hs => ?_, fun t E W m ht => by simp [Ctx.hid] at ht, fun t t' ht => by simp [Ctx.hid] at ht, fun t => by simp [Ctx.hid], hI.base, hI.glob⟩
    exact ⟨(hI.prot g j hs).1, rfl, fun t E W m ht => by simp [Ctx.hid] at ht⟩
  refine (hc C.hid cs hid (RepL.pures (C := C) (C' := C.hid) ⟨fun g j hs => ⟨hs, rfl⟩⟩ args cs ha hr)).mono ?_
  rintro e w' ⟨C1, h1, v, cv, rfl, rfl, I1, S1, r1, xs, rfl, hf⟩
  have hblk : ∀ g, g < C.w.heap.size → C1.w.heap[g]? = C.w.heap[g]? := fun g hg => S1.frame g hg rfl fun t ht => by simp [Ctx.hid] at ht
  have hnew : ∀ g i, C1.own g = some i → C.w.heap.size ≤ g := fun g i hg => by
    rcases Nat.lt_or_ge g C.w.heap.size with hlt | hge
    · have := S1.own g hlt
      rw [hg] at this
      simp [Ctx.hid] at this
    · exact hge
  let C2 : Ctx := { C with w := C1.w, S := fun g j => C1.S g j ∨ ((C1.own g).isSome = true), own := fun g => if g < C.w.heap.size then C.own g else none }
  have hsz : C.w.heap.size ≤ C1.w.heap.size := S1.size
  have he : Ext C C2 := by
    refine ⟨fun g j hs => ?_, Nat.le_refl _, fun _ _ => rfl, fun t E W m ht => ?_⟩
    · obtain ⟨k1, k2⟩ := S1.ext.cells g j hs
      exact ⟨.inl k1, k2⟩
    · obtain ⟨_, _, cap, h2, _⟩ := hI.rows t E W m ht
      exact ⟨m, ht, .inr ⟨rfl, rfl, fun cap hc => hc.same (hblk _ h2.lt)⟩⟩
  have hown : ∀ g i, C2.own g = some i ↔ C.own g = some i := fun g i => by
    show (if g < C.w.heap.size then C.own g else none) = some i ↔ _
    split
    · exact Iff.rfl
    · next hg => exact ⟨fun e => (by cases e), fun e => absurd (hI.ownlt g i e).2.1 hg⟩
  have hprot : ∀ g j, C2.S g j → C.S g j ∨ C.w.heap.size ≤ g := fun g j hs => by
    rcases hs with hs | hs
    · rcases S1.prot g j hs with h2 | h2 | ⟨t, h2, _⟩
      · exact .inl h2
      · exact .inr h2
      · simp [Ctx.hid] at h2
    · obtain ⟨i, hi⟩ := Option.isSome_iff_exists.1 hs
      exact .inr (hnew g i hi)
  have hSlt : ∀ g j, C2.S g j → g < C1.w.heap.size := fun g j hs => by
    rcases hs with hs | hs
    · exact (I1.prot g j hs).1
    · obtain ⟨i, hi⟩ := Option.isSome_iff_exists.1 hs
      exact (I1.ownlt g i hi).2.1
  have hsame : Same C1 C2 := ⟨fun g j hs => ⟨.inl hs, rfl⟩⟩
  have frz : ∀ (xs ys : List A) (vs : List Value), FzL h1 xs ys → RepL C1 xs vs → RepL C2 ys vs := by
    intro xs
    induction xs with
    | nil =>
      intro ys vs hf hr
      cases ys with
      | nil => exact hr
      | cons y ys => exact hf.elim
    | cons x xs ih =>
      intro ys vs hf hr
      cases ys with
      | nil => exact hf.elim
      | cons y ys =>
        obtain ⟨c, cs', rfl, k1, k2⟩ := repL_cons.1 hr
        refine repL_cons.2 ⟨c, cs', rfl, ?_, ih ys cs' hf.2 k2⟩
        rcases hf.1 with ⟨rfl, hd⟩ | ⟨i, W, T, rows, rfl, hb, rfl, hW, hd⟩
        · exact Rep.same hsame _ _ hd k1
        · obtain ⟨cap, rfl, hcap, hi⟩ := rep_bs.1 k1
          obtain ⟨ds, rest, q1, q2⟩ := I1.box i _ hb
          have hsd : (C1.own (C1.κ i)).isSome = true := by rw [I1.ownk i hi]; rfl
          have hdd : ∀ (l : List A) (ds : List Value), l.all A.data = true → RepL C1 l ds → RepL C2 l ds := fun l ds hd hr => RepL.same hsame l ds hd hr
          refine rep_sl.2 ⟨_, cap, rfl, hcap, repRows_of rows ds 0 hW hd (hdd _ _ hd q2) (fun j _ => .inr hsd) (fun j u hu => ?_), trivial⟩
          have q1' : C2.w.heap[C1.κ i]? = some (.cells (ds ++ rest).toArray T (0, 0)) := q1
          rw [cell_of_row _ _ _ _ _ _ q1']
          have hj : j < ds.length := (List.getElem?_eq_some_iff.1 hu).1
          simp only [List.getElem?_toArray]
          rw [show 0 + 0 * W + j = j by omega, List.getElem?_append_left hj]
          exact hu
  refine ⟨C2, h, .agg ys, cv, rfl, rfl, ⟨hI.nb, fun i b hib => ?_, fun i hi => (hown _ _).2 (hI.ownk i hi), fun g i hg => ?_, fun g j hs => ?_, fun t E W m ht => ?_, hI.inj, hI.toks, Nat.le_trans hI.base hsz, fun w2 hw => ?_⟩, ⟨he, S1.os, S1.tape, S1.output, hsz, rfl, fun g hg _ _ => hblk g hg, fun g hg => ?_, fun g j hs => ?_, fun t ht => .inr ⟨ht, rfl⟩⟩, ?_, rfl, rfl⟩
  · have hi : i < C.nb := by rw [← hI.nb]; exact (List.getElem?_eq_some_iff.1 hib).1
    exact (hI.box i b hib).ext he hi (hI.ownk i hi) (fun g j hg => (hI.ownlt g j hg).2.1) (fun g hg => hblk g (hI.ownlt g i hg).2.1) (fun g => hown g i) hsz
  · obtain ⟨k1, k2, k3⟩ := hI.ownlt g i ((hown g i).1 hg)
    exact ⟨k1, Nat.lt_of_lt_of_le k2 hsz, k3⟩
  · have hlt := hSlt g j hs
    rcases hprot g j hs with h2 | h2
    · obtain ⟨k1, k2, k3⟩ := hI.prot g j h2
      exact ⟨hlt, by show (if g < C.w.heap.size then C.own g else none) = none; rw [if_pos k1, k2], k3⟩
    · refine ⟨hlt, by show (if g < C.w.heap.size then C.own g else none) = none; rw [if_neg (by omega)], fun t E W m ht e => ?_⟩
      obtain ⟨_, _, cap, k1, _⟩ := hI.rows t E W m ht
      have := k1.lt
      have e' : C.τ t = g := e
      omega
  · obtain ⟨k1, k2, cap, k3, k4⟩ := hI.rows t E W m ht
    exact ⟨by show (if C.τ t < C.w.heap.size then C.own (C.τ t) else none) = none; rw [if_pos k3.lt, k1], k2, cap, k3.same (hblk _ k3.lt), k4⟩
  · exact hI.glob w2 fun g hg => (hw g hg).trans (hblk g (Nat.lt_of_lt_of_le hg hI.base))
  · show (if g < C.w.heap.size then C.own g else none) = C.own g
    rw [if_pos hg]
  · rcases hprot g j hs with h2 | h2
    · exact .inl h2
    · exact .inr (.inl h2)
  · obtain ⟨vs, rfl, hl⟩ := rep_agg.1 r1
    exact rep_agg.2 ⟨vs, rfl, frz xs ys vs hf hl⟩
end
end AX
end Go.Proofs.YtkhhnkceiibmfaaGreatDoor

namespace Go.Proofs.YtkhhnkceiibmfaaGreatDoor
open Go.RowKit
set_option linter.unusedSimpArgs false
set_option linter.unusedVariables false
set_option maxHeartbeats 2000000 in
set_option maxRecDepth 100000 in
theorem clone_steps (b off n c : Nat) (news : List Value) (w : World) (hl : news.length = n * 4) (hn : 0 < n) (hbig : n * 48 ≤ 140737488355328) (hmax : n ≤ maxLen) (hc : ∀ j v, news[j]? = some v → w.cell? ((⟨b, off, none⟩ : Addr).add j) = some v) (h1 : ∀ u ∈ news, u.oneCell' = true) :
    Calls Tryz.prog 269 #[.slice (some ⟨b, off, none⟩) n c] w fun e w' => ∃ v', e = .returned v' ∧ w'.ownsRow w.heap.size 251 4 v' n news ∧ Below w.heap.size w w' := by
  obtain ⟨i0, hi, hz0, hz1, hz2⟩ := info_parts (show (Tryz.prog.info? 251).map (fun i => (i.zero, i.size, i.bytes)) = some (some (.agg #[.string ⟨#[]⟩, .int .i64 0, .int .i64 0, .string ⟨#[]⟩]), 4, 48) by kernel_rfl)
  have q22 : ∀ (w : World) (a : Option Addr) (n c n' c' : Nat), (binOp .eql 199 (.slice a n c) (.slice none n' c')).run Tryz.prog w = .ok (.bool a.isNone) w := fun w a n c n' c' => Lib.run_eql_slice_nil w _ _ a n c n' c' Tryz.underlying199
  have u22 : ∀ w, Sem.run Tryz.prog (underlying 199) w = .ok (TypeDesc.slice 251) w := run_underlying Tryz.underlying199
  have HC := kept hc
  have H1 := kept h1
  clear hc h1
  go_enter Tryz.func269, Tryz.ntmps269
  go_wp2_with (at_builtin; refine wpList_append_own _ rfl _ _ 199 rfl w.heap.size 251 i0 (.agg #[.string ⟨#[]⟩, .int .i64 0, .int .i64 0, .string ⟨#[]⟩]) 4 48 Tryz.underlying199 hi hz0 hz1 hz2 rfl (by decide) _ _ _ rfl (World.ownsRow_made w #[] 0 (Nat.le_refl _) (Nat.zero_le _) rfl) ⟨b, off, none⟩ n c news rfl ?qc1 ?qc2 ?qc3 ?qc4 ?qc5 ?qc6 ?_)
  case qc1 => exact hl
  case qc2 =>
    intro j u hj
    have := HC.out j u hj
    rw [Addr.add_lit] at this ⊢
    exact Lib.cell?_alloc_some _ this
  case qc3 => exact H1.out
  case qc4 => omega
  case qc5 => omega
  case qc6 => simp
  intro v' w1 hown hgrow hnil
  have Hb := kept (((Below.refl _ w).alloc (Nat.le_refl _) (.cells #[] 251)).grown hgrow (by simp) (by intro k hk; simp [Value.ownBlock] at hk; omega))
  have Ho := kept (show w1.ownsRow w.heap.size 251 4 v' n news by simpa using hown)
  clear hown hgrow hnil HC H1
  go_wp2
  go_ret
  exact ⟨v', rfl, Ho.out, Hb.out⟩
set_option maxHeartbeats 1000000 in
theorem clone_steps0 (a : Option Addr) (c : Nat) (w : World) :
    Calls Tryz.prog 269 #[.slice a 0 c] w fun e w' => (∃ a' c', e = .returned (.slice a' 0 c')) ∧ Below w.heap.size w w' := by
  have q22 : ∀ (w : World) (a : Option Addr) (n c n' c' : Nat), (binOp .eql 199 (.slice a n c) (.slice none n' c')).run Tryz.prog w = .ok (.bool a.isNone) w := fun w a n c n' c' => Lib.run_eql_slice_nil w _ _ a n c n' c' Tryz.underlying199
  have u22 : ∀ w, Sem.run Tryz.prog (underlying 199) w = .ok (TypeDesc.slice 251) w := run_underlying Tryz.underlying199
  cases a with
  | none =>
    go_enter Tryz.func269, Tryz.ntmps269
    go_wp2
    go_ret
    exact ⟨⟨_, _, rfl⟩, Below.refl _ _⟩
  | some ad =>
    obtain ⟨i0, hi, hz0, hz1, hz2⟩ := info_parts (show (Tryz.prog.info? 251).map (fun i => (i.zero, i.size, i.bytes)) = some (some (.agg #[.string ⟨#[]⟩, .int .i64 0, .int .i64 0, .string ⟨#[]⟩]), 4, 48) by kernel_rfl)
    go_enter Tryz.func269, Tryz.ntmps269
    go_wp2_with (at_builtin; refine wpList_append_own _ rfl _ _ 199 rfl w.heap.size 251 i0 (.agg #[.string ⟨#[]⟩, .int .i64 0, .int .i64 0, .string ⟨#[]⟩]) 4 48 Tryz.underlying199 hi hz0 hz1 hz2 rfl (by decide) _ _ _ rfl (World.ownsRow_made w #[] 0 (Nat.le_refl _) (Nat.zero_le _) rfl) ad 0 c [] rfl rfl (by intro j u hj; simp at hj) (by intro u hu; cases hu) (by unfold maxLen; omega) (by omega) (by simp) ?_)
    intro v' w1 hown hgrow hnil
    have Hb := kept (((Below.refl _ w).alloc (Nat.le_refl _) (.cells #[] 251)).grown hgrow (by simp) (by intro k hk; simp [Value.ownBlock] at hk; omega))
    have Hv : ∃ a' c', v' = .slice a' 0 c' := by
      rcases hown.2 with ⟨rfl, _⟩ | ⟨g, cap, cur, rfl, _⟩
      · exact ⟨_, _, rfl⟩
      · exact ⟨_, _, rfl⟩
    obtain ⟨a', c', rfl⟩ := Hv
    clear hown hgrow hnil
    go_wp2
    go_ret
    exact ⟨⟨_, _, rfl⟩, Hb.out⟩
namespace AX
theorem a_clone_steps0 (W0 : Nat) (o : Own) (h : Hp) : ACall Tryz.prog GT 269 [.sl W0 o []] h fun v h' => v = .sl 4 .no [] ∧ h' = h := by
  intro C es hI ha
  obtain ⟨c, es', rfl, h1, h2⟩ := repL_cons.1 ha
  rw [repL_nil] at h2; subst h2
  obtain ⟨a, cap, rfl, _, _, _⟩ := rep_sl.1 h1
  refine (clone_steps0 a cap C.w).mono ?_
  rintro e w' ⟨⟨a', c', rfl⟩, hb⟩
  obtain ⟨i1, s1⟩ := inv_below hI hb
  exact ⟨C.at w', h, .sl 4 .no [], _, rfl, rfl, i1, s1, rep_sl.2 ⟨a', c', rfl, Nat.zero_le _, by unfold RepRows; trivial, trivial⟩, rfl, rfl⟩
theorem a_clone_steps (o : Own) (rows : List (List A)) (h0 : rows ≠ []) (hbig : rows.length * 48 ≤ 140737488355328) (hmax : rows.length ≤ maxLen) (h : Hp) :
    ACall Tryz.prog GT 269 [.sl 4 o rows] h fun v h' => v = .bs h.b.length 4 rows.length ∧ h' = ⟨h.b ++ [.row 251 rows.flatten], h.t⟩ := by
  intro C es hI ha
  obtain ⟨c, es', rfl, h1, h2⟩ := repL_cons.1 ha
  rw [repL_nil] at h2; subst h2
  have hpos : 0 < rows.length := List.length_pos_iff.2 h0
  obtain ⟨g, off, cap, cs, rfl, k1, k2, k3, k4, k5⟩ := sl_open h1 hpos
  refine (clone_steps g off rows.length cap cs C.w k2 hpos hbig hmax k5 (repL_one k1 (data_one k3))).mono ?_
  rintro e w' ⟨v', rfl, hown, hb⟩
  rcases hown.2 with ⟨_, hz⟩ | ⟨g', cap', cur, rfl, hg, hh, hcap, _, hcs, htake⟩
  · omega
  · have hcur : cur = (cs ++ cur.toList.drop (rows.length * 4)).toArray := by
      apply Array.toList_inj.1
      rw [← htake]
      simp
    rw [hcur] at hh
    obtain ⟨C', m1, m2, m3, m4, m5⟩ := new_row hI hb hg hh k1
    exact ⟨C', _, .bs h.b.length 4 rows.length, _, rfl, m1, m2, m3, rep_bs.2 ⟨cap', by rw [m4], hcap, m5⟩, rfl, rfl⟩
end AX

set_option maxHeartbeats 4000000
namespace AX
theorem setCells_eq : ∀ (xs l : List A) (off : Nat), off + xs.length ≤ l.length → setCells l off xs = l.take off ++ xs ++ l.drop (off + xs.length) := by
  intro xs
  induction xs with
  | nil => intro l off _; simp [setCells]
  | cons x xs ih =>
    intro l off hlt
    rw [List.length_cons] at hlt
    rw [setCells, ih _ _ (by simp; omega), List.take_add_one, List.getElem?_set_self (by omega), List.take_set_of_le (Nat.le_refl _), List.drop_set_of_lt (by omega)]
    simp [show off + 1 + xs.length = off + (xs.length + 1) by omega]
def bareS (s : Adr.Step) : Adr.Step := ⟨s.name, Adr.K.none⟩
/-- The steps' cells, the first j without their keys. -/
def barL (mods : List Adr.Step) (j : Nat) : List A := (((mods.take j).map bareS).map Adr.Step.cells).flatten ++ ((mods.drop j).map Adr.Step.cells).flatten
theorem cells_len (l : List Adr.Step) : ((l.map Adr.Step.cells).flatten).length = l.length * 4 := by
  induction l with
  | nil => rfl
  | cons x l ih => rw [List.map_cons, List.flatten_cons, List.length_append, ih]; simp [Adr.Step.cells]; omega
theorem barL_len (mods : List Adr.Step) (j : Nat) (hj : j ≤ mods.length) : (barL mods j).length = mods.length * 4 := by
  unfold barL
  rw [List.length_append, cells_len, cells_len, List.length_map, List.length_take, List.length_drop, ← Nat.add_mul]
  congr 1; omega
theorem barL_set (mods : List Adr.Step) (j : Nat) (hj : j < mods.length) : setCells (barL mods j) (j * 4 + 1) [.int .i64 0, .int .i64 0, .str []] = barL mods (j + 1) := by
  rw [setCells_eq _ _ _ (by rw [barL_len _ _ (by omega)]; simp; omega)]
  have hp : ((((mods.take j).map bareS).map Adr.Step.cells).flatten).length = j * 4 := by
    rw [cells_len, List.length_map, List.length_take]; congr 1; omega
  have hd : mods.drop j = mods[j] :: mods.drop (j + 1) := List.drop_eq_getElem_cons hj
  have ht : mods.take (j + 1) = mods.take j ++ [mods[j]] := by rw [List.take_succ_eq_append_getElem hj]
  unfold barL
  rw [hd, ht, List.map_append, List.map_append, List.flatten_append]
  generalize (((mods.take j).map bareS).map Adr.Step.cells).flatten = p at hp
  obtain ⟨nm, ⟨kd, kn, ks⟩⟩ := mods[j]
  simp only [List.map_cons, List.flatten_cons, Adr.Step.cells, List.cons_append, List.nil_append, List.length_cons, List.length_nil]
  generalize ((mods.drop (j + 1)).map Adr.Step.cells).flatten = q
  rw [List.take_append, List.take_of_length_le (by omega), List.drop_append, List.drop_of_length_le (by omega), hp]
  rw [show j * 4 + 1 - j * 4 = 1 by omega, show j * 4 + 1 + (0 + 1 + 1 + 1) - j * 4 = 4 by omega]
  simp [bareS, Adr.K.none, Adr.Step.cells]
def c_astatic : AX.AFn := ⟨26, .seq (.reg false [⟨some 1, .box 204 (.t 0), none, []⟩, ⟨some 2, .alloc 204 [.sl 0 .nil [], .bool false, .str [], .str [], .int .i64 0, .int .i64 0, .str []], none, []⟩]) (.seq (.reg false [⟨some 5, .load true 7 (.t 1), none, []⟩, ⟨some 3, .alloc 204 [.sl 0 .nil [], .bool false, .str [], .str [], .int .i64 0, .int .i64 0, .str []], none, []⟩, ⟨none, .store 7 (.t 3) (.t 5), none, []⟩]) (.seq (.reg false [⟨some 6, .build [.int .i64 0, .int .i64 0, .str []] [], none, []⟩, ⟨some 7, .faddr 4 (.t 3), none, []⟩, ⟨none, .store 3 (.t 7) (.t 6), none, []⟩]) (.seq (.reg false [⟨some 8, .faddr 0 (.t 1), none, []⟩, ⟨some 9, .load false 1 (.t 8), none, []⟩, ⟨some 10, .call 269 [.t 9], none, []⟩, ⟨some 11, .faddr 0 (.t 3), none, []⟩, ⟨none, .store 1 (.t 11) (.t 10), none, []⟩]) (.seq (.seq (.reg false [⟨some 12, .faddr 0 (.t 3), none, []⟩, ⟨some 13, .load false 1 (.t 12), none, []⟩, ⟨some 14, .len false (.t 13), none, []⟩, ⟨some 15, .mv (.c (.int .i64 0)), none, []⟩]) (.block 0 (.loop (.seq (.reg false [⟨some 16, .bin .lss (.t 15) (.t 14), none, []⟩]) (.seq (.cond (.t 16) (.skip) (.exit 0)) (.seq (.block 1 (.seq (.reg false [⟨some 17, .mv (.t 15), none, []⟩, ⟨some 4, .mv (.t 17), none, []⟩]) (.reg false [⟨some 18, .faddr 0 (.t 3), none, []⟩, ⟨some 19, .load false 1 (.t 18), none, []⟩, ⟨some 20, .mv (.t 4), none, []⟩, ⟨some 21, .build [.int .i64 0, .int .i64 0, .str []] [], none, []⟩, ⟨some 22, .iaddr 4 (.t 19) (.t 20), none, []⟩, ⟨some 23, .faddr 1 (.t 22), none, []⟩, ⟨none, .store 3 (.t 23) (.t 21), none, []⟩]))) (.reg false [⟨some 24, .bin .add (.t 15) (.c (.int .i64 1)), none, []⟩, ⟨some 15, .mv (.t 24), none, []⟩]))))))) (.seq (.reg false [⟨some 25, .load true 7 (.t 3), none, []⟩, ⟨none, .store 7 (.t 2) (.t 25), none, []⟩]) (.ret)))))), [.c 2 true 7]⟩
theorem h_astatic : AX.compFn Tryz.prog 242 = some c_astatic := by kernel_rfl

theorem a_static0 (a : Adr.Ad) (hn : a.mods.length ≤ 3000000) (h : Hp) : ACall Tryz.prog GT 242 [.agg a.cells] h fun v h' => v = .agg (Adr.bare a).cells ∧ h' = h := by
  obtain ⟨mods, data, ty, nm, ⟨kk, kn, ks⟩⟩ := a
  dsimp only at hn
  have hbc : (Adr.bare ⟨mods, data, ty, nm, ⟨kk, kn, ks⟩⟩).cells = [.sl 4 .no ((mods.map fun s => (⟨s.name, Adr.K.none⟩ : Adr.Step)).map Adr.Step.cells), .bool data, .str ty, .str nm, .int .i64 0, .int .i64 0, .str []] := rfl
  rw [hbc]
  refine pcallz ?_ (by simp [A.pure, A.data, Adr.Ad.cells]) h
  refine acall_of mixedT h_astatic (by simp [c_astatic]) ?_
  dsimp only [c_astatic, Adr.Ad.cells]
  by_cases hm : mods = []
  · subst hm
    have hc := fun h => a_clone_steps0 4 .no h
    have hz : ¬ (0 : Int) < ((0 : Nat) : Int) := by decide
    simp only [List.map_nil]
    (refine AX.run0 True.intro ?_)
    refine use (hc _) ?_
    (refine AX.run0 True.intro ?_)
    refine go_once ?_
    (refine AX.run0 hz ?_)
    exact ⟨_, le_refl _, _, rfl, ⟨.inl ⟨rfl, rfl⟩, .inl ⟨rfl, rfl⟩, .inl ⟨rfl, rfl⟩, .inl ⟨rfl, rfl⟩, .inl ⟨rfl, rfl⟩, .inl ⟨rfl, rfl⟩, .inl ⟨rfl, rfl⟩, trivial⟩⟩
  · have hrne : mods.map Adr.Step.cells ≠ [] := by simpa using hm
    have lm : (mods.map Adr.Step.cells).length = mods.length := List.length_map ..
    have hc := fun h => a_clone_steps .no (mods.map Adr.Step.cells) hrne (by rw [lm]; omega) (by rw [lm]; unfold maxLen; omega) h
    rw [lm] at hc
    (refine AX.run0 True.intro ?_)
    refine use (hc _) ?_
    (refine AX.run0 True.intro ?_)
    have hL0 : (mods.map Adr.Step.cells).flatten = barL mods 0 := by unfold barL; simp
    rw [hL0]
    refine awp_loop (fun mm ts h => ∃ (j : Nat) (B0 : Blk), mm = mods.length - j ∧ j ≤ mods.length ∧ h = ⟨[B0, .cells 204 [.sl 0 .nil [], .bool false, .str [], .str [], .int .i64 0, .int .i64 0, .str []], .cells 204 [.bs 3 4 mods.length, .bool data, .str ty, .str nm, .int .i64 0, .int .i64 0, .str []], .row 251 (barL mods j)], []⟩ ∧ ts 2 = .ptr 1 0 ∧ ts 3 = .ptr 2 0 ∧ ts 14 = .int .i64 (mods.length : Nat) ∧ ts 15 = .int .i64 (j : Nat)) mods.length ?_ ?_
    · exact ⟨0, _, by omega, by omega, rfl, by (exact AX.ev0 True.intro), by (exact AX.ev0 True.intro), by (exact AX.ev0 True.intro), by (exact AX.inv0 True.intro)⟩
    rintro mm ts h ⟨j, B0, rfl, hjc, rfl, t2, t3, t14, t15⟩
    by_cases hj : j < mods.length
    · have hlt : (j : Int) < (mods.length : Int) := by omega
      have hj0 : (0 : Int) ≤ (j : Int) := by omega
      have ei : IntKind.i64.wrap ((j : Int) + 1) = ((j + 1 : Nat) : Int) := by rw [wrap64 (by omega) (by omega)]; omega
      have hset := barL_set mods j hj
      have hln : j * 4 + 1 + 3 ≤ (barL mods j).length := by rw [barL_len _ _ (by omega)]; omega
      simp only [setCells] at hset
      (refine AX.run0 (And.intro t2 (And.intro t3 (And.intro t14 (And.intro t15 (And.intro hlt (And.intro hj0 (And.intro hln (And.intro hset ei)))))))) ?_)
      exact ⟨mods.length - (j + 1), by omega, j + 1, B0, rfl, by omega, rfl, by (exact AX.ev0 t2), by (exact AX.ev0 t3), by (exact AX.ev0 t14), by (exact AX.ev0 ei)⟩
    · have hlt : ¬ ((j : Int) < (mods.length : Int)) := by omega
      have hje : j = mods.length := by omega
      subst hje
      (refine AX.run0 (And.intro t2 (And.intro t3 (And.intro t14 (And.intro t15 hlt)))) ?_)
      refine ⟨_, le_refl _, _, rfl, ⟨.inr ⟨3, 4, 251, (mods.map bareS).map Adr.Step.cells, by simp, ?_, rfl, ?_, ?_⟩, .inl ⟨rfl, rfl⟩, .inl ⟨rfl, rfl⟩, .inl ⟨rfl, rfl⟩, .inl ⟨rfl, rfl⟩, .inl ⟨rfl, rfl⟩, .inl ⟨rfl, rfl⟩, trivial⟩⟩
      · show some (Blk.row _ _) = some _
        congr 2
        unfold barL
        simp
      · intro r hr
        obtain ⟨s, _, rfl⟩ := List.mem_map.1 hr
        rfl
      · rw [List.all_flatten, List.all_eq_true]
        intro r hr
        obtain ⟨s, _, rfl⟩ := List.mem_map.1 hr
        rfl
end AX
end Go.Proofs.YtkhhnkceiibmfaaGreatDoor

namespace Go.Proofs.YtkhhnkceiibmfaaGreatDoor
open Go.RowKit
set_option linter.unusedSimpArgs false
set_option linter.unusedVariables false
/-- The writer at block b holds the bytes l; its version. -/
def BWtr (B b : Nat) (l : List UInt8) (w : World) : Prop :=
  B ≤ b ∧ ∃ p v, (p = .pointer none ∨ p = .pointer (some ⟨b, 0, none⟩)) ∧ w.heap[b]? = some (.cells #[p, v] 159 (0, 0)) ∧ w.ownsRowF B 5 1 v l.length (Lib.byteCells l) ∧ v.ownBlock ≠ some b
/-- .. that has been written. -/
def BWtrU (B b : Nat) (l : List UInt8) (w : World) : Prop :=
  B ≤ b ∧ ∃ v, w.heap[b]? = some (.cells #[.pointer (some ⟨b, 0, none⟩), v] 159 (0, 0)) ∧ w.ownsRowF B 5 1 v l.length (Lib.byteCells l) ∧ v.ownBlock ≠ some b
set_option maxHeartbeats 1000000 in
set_option maxRecDepth 100000 in
theorem bwtr_fresh (b : Nat) (w : World) (h0 : w.cell? ⟨b, 0, none⟩ = some (.pointer none)) (hsh : w.shape? b = some (159, 2)) (hfz : w.frozen? ⟨b, 0, none⟩ = false) :
    Calls Tryz.prog 226 #[.pointer (some ⟨b, 0, none⟩)] w fun e w' => e = .returned (.tuple #[]) ∧ w' = w.setCell ⟨b, 0, none⟩ (.pointer (some ⟨b, 0, none⟩)) := by
  obtain ⟨j, hj, hjs⟩ := Option.map_eq_some_iff.1 (show (Tryz.prog.info? 159).map (·.size) = some 2 by kernel_rfl)
  have hlies : liesAt Tryz.prog Tryz.prog.depth 159 (2 / Tryz.prog.cellsOf 159) 0 159 1 = true := by kernel_rfl
  go_enter Tryz.func226, Tryz.ntmps226
  go_wp2
  rw [Lib.run_to_unsafe w ⟨b, 0, none⟩ Tryz.underlying157 Tryz.underlying289 hj (by rw [hjs]; decide) hsh (by show 0 < 2; omega)]
  simp only [Result.andThen]
  rw [Oper.upon_value]
  go_wp2
  rw [run_callFunc_extern Tryz.func259 (by kernel_rfl) (by kernel_rfl) (by kernel_rfl) (e := Extern.AbiNoEscape.same) (by kernel_rfl)]
  rw [Lib.run_noEscape]
  simp only [Result.andThen]
  rw [Oper.upon_value]
  go_wp2
  rw [Lib.run_from_unsafe w ⟨b, 0, none⟩ Tryz.underlying289 Tryz.underlying157 hj hsh hlies]
  simp only [Result.andThen]
  rw [Oper.upon_value]
  go_wp2
  go_end0
  exact ⟨rfl, rfl⟩
theorem cell_row2 {w : World} {b : Nat} {p v : Value} {T : TypeId} (h : w.heap[b]? = some (.cells #[p, v] T (0, 0))) : w.cell? ⟨b, 0, none⟩ = some p ∧ w.cell? ⟨b, 1, none⟩ = some v ∧ (∀ i, w.frozen? ⟨b, i, none⟩ = false) ∧ w.shape? b = some (T, 2) ∧ b < w.heap.size := by
  refine ⟨?_, ?_, fun i => ?_, ?_, (Array.getElem?_eq_some_iff.1 h).1⟩
  · rw [cell_of_row _ _ _ _ _ _ h]; rfl
  · rw [cell_of_row _ _ _ _ _ _ h]; rfl
  · simp [World.frozen?, h]
  · simp [World.shape?, h]
theorem BWtr.used {B b : Nat} {l : List UInt8} {w : World} {p v : Value} (hB : B ≤ b) (hb : w.heap[b]? = some (.cells #[p, v] 159 (0, 0))) (hown : w.ownsRowF B 5 1 v l.length (Lib.byteCells l)) (hne : v.ownBlock ≠ some b) :
    BWtrU B b l (w.setCell ⟨b, 0, none⟩ (.pointer (some ⟨b, 0, none⟩))) := by
  refine ⟨hB, v, ?_, ?_, hne⟩
  · simp [World.setCell, Array.getElem?_modify, hb]
  · exact hown.kept (row := some b) ⟨rfl, rfl, rfl, by simp [World.setCell], fun k _ hk => Below.heap_setCell _ _ _ _ (fun e => hk (by simp [e]))⟩ (Or.inr hne)
/-- The writer at block b, whose blocks are F, holds the bytes l; its version. -/
def BF (F : Nat → Prop) (b : Nat) (l : List UInt8) (w : World) : Prop :=
  ∃ p v, (p = .pointer none ∨ p = .pointer (some ⟨b, 0, none⟩)) ∧ w.heap[b]? = some (.cells #[p, v] 159 (0, 0)) ∧ w.ownsRowF 0 5 1 v l.length (Lib.byteCells l) ∧ v.ownBlock ≠ some b ∧ F b ∧ ∀ k, v.ownBlock = some k → F k
/-- copyCheck at a writer. -/
theorem bf_check {F : Nat → Prop} {b : Nat} {l : List UInt8} {w : World} (h : BF F b l w) :
    Calls Tryz.prog 226 #[.pointer (some ⟨b, 0, none⟩)] w fun e w' => e = .returned (.tuple #[]) ∧ (∃ v, w'.heap[b]? = some (.cells #[.pointer (some ⟨b, 0, none⟩), v] 159 (0, 0)) ∧ w'.ownsRowF 0 5 1 v l.length (Lib.byteCells l) ∧ v.ownBlock ≠ some b ∧ F b ∧ ∀ k, v.ownBlock = some k → F k) ∧ Fr F w w' := by
  obtain ⟨p, v, hp, hb, hown, hne, hF, hFk⟩ := h
  obtain ⟨c0, c1, hf, hsh, hlt⟩ := cell_row2 hb
  rcases hp with rfl | rfl
  · refine (bwtr_fresh b w c0 hsh (hf 0)).mono ?_
    rintro e w' ⟨rfl, rfl⟩
    obtain ⟨_, v', hb', hown', hne'⟩ := BWtr.used (B := 0) (Nat.zero_le _) hb hown hne
    have hv : v' = v := by
      have := (cell_row2 hb').2.1
      have h2 : (w.setCell ⟨b, 0, none⟩ (.pointer (some ⟨b, 0, none⟩))).heap[b]? = some (.cells #[.pointer (some ⟨b, 0, none⟩), v] 159 (0, 0)) := by simp [World.setCell, Array.getElem?_modify, hb]
      have h3 := (cell_row2 h2).2.1
      rw [h3] at this; injection this with this; exact this.symm
    subst hv
    exact ⟨rfl, ⟨v', hb', hown', hne', hF, hFk⟩, Fr.set w b 0 _ hF⟩
  · refine (Any.Builder_copyCheck_used Tryz.lays240 Tryz.Builder_X72_240 b w c0).mono ?_
    rintro e w' ⟨rfl, rfl⟩
    exact ⟨rfl, ⟨v, hb, hown, hne, hF, hFk⟩, Fr.refl F _⟩
set_option maxHeartbeats 2000000 in
set_option maxRecDepth 100000 in
/-- WriteString at a writer. -/
theorem bf_write {F : Nat → Prop} {b : Nat} {l : List UInt8} {w : World} (h : BF F b l w) (s : List UInt8) (hlen : l.length + s.length ≤ 1000000000) :
    Calls Tryz.prog 175 #[.pointer (some ⟨b, 0, none⟩), .string ⟨s.toArray⟩] w fun e w' => e = .returned (.tuple #[.int .i64 s.length, .nilIface]) ∧ BF (fun k => F k ∨ w.heap.size ≤ k) b (l ++ s) w' ∧ Fr F w w' := by
  obtain ⟨i0, hi, hz0, hz1, hz2⟩ := info_parts info_byte
  go_enter Tryz.func175, Tryz.ntmps175
  go_wp2_with fail
  (with_reducible refine (bf_check h).mono ?_)
  rintro e w1 ⟨rfl, ⟨v, hbk, hown, hne, hF, hFk⟩, hb1⟩
  obtain ⟨c0, c1, hf, hsh, hlt⟩ := cell_row2 hbk
  go_wp2_with (at_builtin; refine wpList_append_F _ rfl _ _ 47 9 rfl 5 i0 Tryz.underlying47 Tryz.underlying9 hi hz0 hz1 hz2 _ _ _ rfl hown ⟨s.toArray⟩ rfl ?c3 ?c4 ?_)
  case c3 => rw [size_mk]; unfold maxLen; omega
  case c4 => rw [size_mk]; omega
  intro v' w2 hown' hgrow hwhere
  have hb2 : w2.heap[b]? = some (.cells #[.pointer (some ⟨b, 0, none⟩), v] 159 (0, 0)) := (hgrow.block b hlt (fun e => hne e.symm)).trans hbk
  obtain ⟨d0, d1, hf2, _, hlt2⟩ := cell_row2 hb2
  have f1 := hf2 1
  have hown2 : w2.ownsRowF 0 5 1 v' (l ++ s).length (Lib.byteCells (l ++ s)) := by
    have e1 : (⟨s.toArray⟩ : ByteArray).size = s.length := size_mk s
    have e2 : Lib.byteCells l ++ Lib.strCells ⟨s.toArray⟩ = Lib.byteCells (l ++ s) := by unfold Lib.strCells Lib.byteCells; simp
    rw [List.length_append, ← e2, ← e1]; exact hown'
  have hne2 := Lib.ownBlock_neF hown2 hb2 (show 159 ≠ 5 by decide)
  have hwb1 := hb1.size
  have Hfin := kept (show BF (fun k => F k ∨ w.heap.size ≤ k) b (l ++ s) (w2.setCell ⟨b, 1, none⟩ v') from by
    refine ⟨_, v', .inr rfl, ?_, ?_, hne2, .inl hF, fun k hk => ?_⟩
    · simp [World.setCell, Array.getElem?_modify, hb2]
    · exact hown2.kept (row := some b) ⟨rfl, rfl, rfl, by simp [World.setCell], fun k _ hk => Below.heap_setCell _ _ _ _ (fun e => hk (by simp [e]))⟩ (Or.inr hne2)
    · rcases hwhere k hk with h1 | h1
      · exact .inl (hFk k h1)
      · exact .inr (by omega))
  have Hfr := kept ((hb1.trans (Fr.grown hgrow fun k hk => hFk k hk)).trans (Fr.set w2 b 1 v' hF))
  obtain ⟨ao, n', cap, rfl⟩ : ∃ ao n' cap, v' = .slice ao n' cap := by
    rcases hown'.2 with ⟨hv, _⟩ | ⟨g, cap, cur, fz, hv, _⟩
    · exact ⟨_, _, _, hv⟩
    · exact ⟨_, _, _, hv⟩
  clear hown' hown2 hne2 hb2 hbk hown hne hgrow hb1 h hwhere
  go_wp2
  go_ret2
  exact ⟨by simp, Hfin.out, Hfr.out⟩
set_option maxHeartbeats 1000000 in
set_option maxRecDepth 100000 in
/-- String at a writer that holds bytes. -/
theorem bf_string {F : Nat → Prop} {b : Nat} {l : List UInt8} {w : World} (h : BF F b l w) (h0 : l ≠ []) :
    Calls Tryz.prog 111 #[.pointer (some ⟨b, 0, none⟩)] w fun e w' => e = .returned (.string ⟨l.toArray⟩) ∧ Fr F w w' := by
  obtain ⟨p, v, hp, hbk, hown, hne, hFb, hFk⟩ := h
  have hl0 : l.length ≠ 0 := by simpa using h0
  obtain ⟨g, cap, cur, fz, rfl, hbg, hg, hfz, hnc, hcm, hcs, htake⟩ : ∃ g cap cur fz, v = .slice (some ⟨g, 0, none⟩) l.length cap ∧ 0 ≤ g ∧ w.heap[g]? = some (.cells cur 5 fz) ∧ fz.2 ≤ l.length * 1 ∧ l.length ≤ cap ∧ cap ≤ maxLen ∧ cur.size = cap * 1 ∧ cur.toList.take (l.length * 1) = Lib.byteCells l := by
    rcases hown.2 with ⟨_, hz⟩ | ⟨g, cap, cur, fz, hv, r⟩
    · exact absurd hz hl0
    · exact ⟨g, cap, cur, fz, hv, r⟩
  have HFg := kept (hFk g rfl)
  have c1 : w.drew.cell? ⟨b, 1, none⟩ = some (.slice (some ⟨g, 0, none⟩) l.length cap) := (cell_row2 hbk).2.1
  have hSD : (Builtin.unsafeSliceData_ #[47] 225 #[.slice (some ⟨g, 0, none⟩) l.length cap]).run Tryz.prog w.drew = .ok (.pointer (some ⟨g, 0, none⟩)) w.drew :=
    Lib.run_unsafeSliceData_row _ _ _ _ _ _ (by omega)
  have hUS : (Builtin.unsafeString_ #[225, 3] 9 #[.pointer (some ⟨g, 0, none⟩), .int .i64 l.length]).run Tryz.prog w.drew = .ok (.string ⟨l.toArray⟩) (w.drew.freeze ⟨g, 0, none⟩ l.length) := by
    refine Lib.run_unsafeString_row w.drew 225 3 9 5 Tryz.underlying225 Tryz.Builder_Extra_169.cellsByte g cur.size (by have hg' : w.drew.heap[g]? = some (.cells cur 5 fz) := hg; simp [World.shape?, hg']) l h0 (by omega) (by unfold maxLen at hcm; omega) ?_
    intro j x hx
    have := hown.cells (g := g) rfl j (.int .u8 x.toNat) (by simp [Lib.byteCells, hx])
    exact this
  have Hfr := kept (show Fr F w (w.drew.freeze ⟨g, 0, none⟩ l.length) from by
    unfold World.freeze
    split
    · exact ⟨rfl, rfl, rfl, Nat.le_refl _, fun _ _ _ => rfl⟩
    · refine ⟨rfl, rfl, rfl, by simp, fun k hk hn => ?_⟩
      have hkg : k ≠ g := fun e => hn (by rw [e]; exact HFg.out)
      simp only [Array.getElem?_modify, if_neg hkg.symm]; rfl)
  clear hown hp hne hbk hnc hcm hcs htake hfz hg hl0 h0 hFk hFb
  have mixed := Tryz.lays169.mixed
  go_enter Tryz.func111, Tryz.ntmps111
  go_wp2
  go_region_o
  all_goals (go_wp2; go_ret; exact ⟨rfl, Hfr.out⟩)
namespace AX
def bwt (l : List UInt8) : Blk := .opq (fun F g w => BF F g l w) (fun _ => none)
/-- Box i is a writer that holds these bytes (a new one among them). -/
def Bt (h : Hp) (i : Nat) (l : List UInt8) : Prop := h.b[i]? = some (bwt l) ∨ (l = [] ∧ h.b[i]? = some (.cells 159 [.nilp, .sl 0 .nil []]))
theorem BF.stable {F : Nat → Prop} {b : Nat} {l : List UInt8} {w w' : World} (h : BF F b l w) (hs : ∀ g, F g → w'.heap[g]? = w.heap[g]?) : BF F b l w' := by
  obtain ⟨p, v, hp, hb, hown, hne, hF, hFk⟩ := h
  refine ⟨p, v, hp, (hs b hF).trans hb, ⟨hown.1, ?_⟩, hne, hF, hFk⟩
  rcases hown.2 with h1 | ⟨g, cap, cur, fz, rfl, h2, h3, h4⟩
  · exact .inl h1
  · exact .inr ⟨g, cap, cur, fz, rfl, h2, (hs g (hFk g rfl)).trans h3, h4⟩
theorem Bt.lt {h : Hp} {i : Nat} {l : List UInt8} (hw : Bt h i l) : i < h.b.length := by
  rcases hw with h1 | ⟨_, h1⟩
  · exact (List.getElem?_eq_some_iff.1 h1).1
  · exact (List.getElem?_eq_some_iff.1 h1).1
theorem Bt.bf {h : Hp} {i : Nat} {l : List UInt8} {C : Ctx} {G : World → Prop} (hw : Bt h i l) (hI : Inv G C h) : BF (fun g => C.own g = some i) (C.κ i) l C.w := by
  have hi : i < C.nb := by rw [← hI.nb]; exact hw.lt
  rcases hw with h1 | ⟨rfl, h1⟩
  · exact (hI.box i _ h1).1 C.w (fun _ _ => rfl) (Nat.le_refl _)
  · obtain ⟨cs, k1, k2⟩ := hI.box i _ h1
    obtain ⟨c0, d0, rfl, e0, k2⟩ := repL_cons.1 k2
    obtain ⟨c1, d1, rfl, e1, k2⟩ := repL_cons.1 k2
    rw [repL_nil] at k2; subst k2
    rw [rep_nilp] at e0; subst e0
    obtain ⟨a, cap, rfl, _, _, e3, e4, _⟩ := rep_sl.1 e1
    subst e3; subst e4
    exact ⟨_, _, .inl rfl, k1, ⟨rfl, .inl ⟨rfl, rfl⟩⟩, by simp [Value.ownBlock], hI.ownk i hi, fun k hk => by simp [Value.ownBlock] at hk⟩
theorem bwtr_rep {C : Ctx} {i : Nat} {l : List UInt8} (h : BF (fun g => C.own g = some i) (C.κ i) l C.w) : BlkRep C i (bwt l) := by
  refine ⟨fun w' hw _ => BF.stable h hw, fun o x hx => ?_⟩
  cases hx
theorem a_bwrite {h : Hp} {i : Nat} {l : List UInt8} (hw : Bt h i l) (s : List UInt8) (hlen : l.length + s.length ≤ 1000000000) :
    ACall Tryz.prog GT 175 [.ptr i 0, .str s] h fun v h' => v = .tup [.int .i64 s.length, .nili] ∧ h' = ⟨h.b.set i (bwt (l ++ s)), h.t⟩ := by
  intro C es hI ha
  obtain ⟨c, es', rfl, h1, h2⟩ := repL_cons.1 ha
  obtain ⟨rfl, hi⟩ := rep_ptr.1 h1
  obtain rfl := args1 r_str C es' h2
  refine (bf_write (hw.bf hI) s hlen).mono ?_
  rintro e w' ⟨rfl, m1, m2⟩
  have hrep : BlkRep (C.turn w' i true) i (bwt (l ++ s)) := by
    refine bwtr_rep ?_
    obtain ⟨p, v, hp, hb, hown, hne, hF, hFk⟩ := m1
    have hlt := (cell_row2 hb).2.2.2.2
    have hcl : ∀ k, k < w'.heap.size → (C.own k = some i ∨ C.w.heap.size ≤ k) → (C.turn w' i true).own k = some i := fun k hk hor => by
      show (if k < C.w.heap.size then C.own k else if true = true ∧ k < w'.heap.size then some i else none) = some i
      split
      · rcases hor with h3 | h3
        · exact h3
        · omega
      · rw [if_pos ⟨rfl, hk⟩]
    refine ⟨p, v, hp, hb, hown, hne, hcl _ hlt hF, fun k hk => hcl k ?_ (hFk k hk)⟩
    rcases hown.2 with ⟨rfl, _⟩ | ⟨g, cap, cur, fz, rfl, _, h3, _⟩
    · simp [Value.ownBlock] at hk
    · simp only [Value.ownBlock, Option.some.injEq] at hk; subst hk
      exact (Array.getElem?_eq_some_iff.1 h3).1
  obtain ⟨i1, s1⟩ := box_turn (b' := bwt (l ++ s)) true hI hi m2.os m2.tape m2.output m2.size (fun g hg hne => m2.block g hg hne) (fun _ => hrep)
  exact ⟨_, _, .tup [.int .i64 s.length, .nili], _, rfl, rfl, i1, s1, rep_tup.2 ⟨_, rfl, repL_cons.2 ⟨_, _, rfl, rep_int.2 rfl, repL_cons.2 ⟨_, _, rfl, rep_nili.2 rfl, repL_nil.2 rfl⟩⟩⟩, rfl, rfl⟩
theorem a_bstring {h : Hp} {i : Nat} {l : List UInt8} (hw : Bt h i l) (h0 : l ≠ []) : ACall Tryz.prog GT 111 [.ptr i 0] h fun v h' => v = .str l ∧ h' = ⟨h.b.set i dead, h.t⟩ := by
  intro C es hI ha
  obtain ⟨c, es', rfl, h1, h2⟩ := repL_cons.1 ha
  obtain ⟨rfl, hi⟩ := rep_ptr.1 h1
  rw [repL_nil] at h2; subst h2
  refine (bf_string (hw.bf hI) h0).mono ?_
  rintro e w' ⟨rfl, m2⟩
  obtain ⟨i1, s1⟩ := box_turn (b' := dead) false hI hi m2.os m2.tape m2.output m2.size (fun g hg hne => m2.block g hg hne) (fun _ => ⟨fun _ _ _ => trivial, fun o x hx => by cases hx⟩)
  exact ⟨_, _, .str l, _, rfl, rfl, i1, s1, rep_str.2 rfl, rfl, rfl⟩
end AX
end Go.Proofs.YtkhhnkceiibmfaaGreatDoor
