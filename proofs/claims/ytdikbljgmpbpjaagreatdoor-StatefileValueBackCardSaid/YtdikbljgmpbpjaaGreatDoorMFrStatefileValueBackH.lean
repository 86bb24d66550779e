/- Part 8 of what the proof needs. -/
import Derived.Test.YtdikbljgmpbpjaaGreatDoorMFrStatefileValueBackE
import Derived.Test.YtdikbljgmpbpjaaGreatDoorMFrStatefileValueBackG
namespace Go.Proofs.YtdikbljgmpbpjaaGreatDoor
open Go.RowKit
set_option linter.unusedSimpArgs false
set_option linter.unusedVariables false
set_option maxHeartbeats 4000000
namespace AX
def c_stext : AX.AFn := ⟨9, .seq (.reg false [⟨some 2, .mv (.c (.bool false)), none, []⟩]) (.seq (.reg false [⟨some 3, .mv (.t 0), none, []⟩, ⟨some 4, .bin .neq (.t 3) (.c (.str [])), none, []⟩, ⟨some 5, .mv (.t 4), none, []⟩, ⟨some 6, .mv (.t 0), some (5, true), []⟩, ⟨some 7, .call 98 [.t 6], some (5, true), []⟩, ⟨some 8, .pick (.t 5) (.t 7) (.c (.bool false)), none, []⟩, ⟨some 2, .mv (.t 8), none, []⟩]) (.ret)), [.t 2]⟩
theorem h_stext : AX.compFn Tryz.prog 47 = some c_stext := by kernel_rfl
def c_scheck : AX.AFn := ⟨128, .seq (.reg false [⟨some 1, .box 26 (.t 0), none, []⟩, ⟨some 2, .mv (.c (.int .i64 0)), none, []⟩]) (.seq (.seq (.reg false [⟨some 11, .faddr 0 (.t 1), none, []⟩, ⟨some 12, .load false 1 (.t 11), none, []⟩, ⟨some 13, .call 47 [.t 12], none, []⟩, ⟨some 14, .un .not (.t 13), none, []⟩]) (.cond (.t 14) (.seq (.reg false [⟨some 2, .mv (.c (.int .i64 1)), none, []⟩]) (.ret)) (.skip))) (.seq (.seq (.reg false [⟨some 15, .faddr 1 (.t 1), none, []⟩, ⟨some 16, .load false 1 (.t 15), none, []⟩, ⟨some 17, .bin .lss (.t 16) (.c (.int .i64 0)), none, []⟩, ⟨some 18, .mv (.t 17), none, []⟩, ⟨some 19, .faddr 1 (.t 1), some (18, false), []⟩, ⟨some 20, .load false 1 (.t 19), some (18, false), []⟩, ⟨some 21, .bin .gtr (.t 20) (.c (.int .i64 9007199254740992)), some (18, false), []⟩, ⟨some 22, .pick (.t 18) (.c (.bool true)) (.t 21), none, []⟩]) (.cond (.t 22) (.seq (.reg false [⟨some 2, .mv (.c (.int .i64 5)), none, []⟩]) (.ret)) (.skip))) (.seq (.seq (.reg false [⟨some 23, .faddr 2 (.t 1), none, []⟩, ⟨some 24, .load false 1 (.t 23), none, []⟩, ⟨some 25, .len false (.t 24), none, []⟩, ⟨some 26, .faddr 3 (.t 1), none, []⟩, ⟨some 27, .load false 1 (.t 26), none, []⟩, ⟨some 28, .len false (.t 27), none, []⟩, ⟨some 29, .faddr 4 (.t 1), none, []⟩, ⟨some 30, .load false 1 (.t 29), none, []⟩, ⟨some 31, .len false (.t 30), none, []⟩, ⟨some 32, .max3 (.t 25) (.t 28) (.t 31), none, []⟩, ⟨some 33, .bin .gtr (.t 32) (.c (.int .i64 512)), none, []⟩]) (.cond (.t 33) (.seq (.reg false [⟨some 2, .mv (.c (.int .i64 14)), none, []⟩]) (.ret)) (.skip))) (.seq (.seq (.reg false [⟨some 34, .faddr 2 (.t 1), none, []⟩, ⟨some 35, .load false 1 (.t 34), none, []⟩, ⟨some 36, .len false (.t 35), none, []⟩, ⟨some 37, .mv (.c (.int .i64 0)), none, []⟩]) (.block 0 (.loop (.seq (.reg false [⟨some 38, .bin .lss (.t 37) (.t 36), none, []⟩]) (.seq (.cond (.t 38) (.skip) (.exit 0)) (.seq (.block 1 (.seq (.reg false [⟨some 39, .mv (.t 37), none, []⟩, ⟨some 40, .iaddr 13 (.t 35) (.t 37), none, []⟩, ⟨some 41, .load true 13 (.t 40), none, []⟩, ⟨some 4, .alloc 63 [.str [], .str [], .str [], .str [], .int .i64 0, .int .i64 0, .str [], .sl 0 .nil [], .sl 0 .nil [], .int .i64 0, .bool false, .bool false, .sl 0 .nil []], none, []⟩, ⟨some 3, .mv (.t 39), none, []⟩, ⟨none, .store 13 (.t 4) (.t 41), none, []⟩]) (.seq (.seq (.reg false [⟨some 42, .load true 13 (.t 4), none, []⟩, ⟨some 43, .call 48 [.t 42], none, []⟩, ⟨some 5, .mv (.t 43), none, []⟩]) (.seq (.reg false [⟨some 44, .mv (.t 5), none, []⟩, ⟨some 45, .bin .neq (.t 44) (.c (.int .i64 0)), none, []⟩]) (.cond (.t 45) (.seq (.reg false [⟨some 46, .mv (.t 5), none, []⟩, ⟨some 2, .mv (.t 46), none, []⟩]) (.ret)) (.skip)))) (.seq (.reg true [⟨some 47, .mv (.t 3), none, []⟩, ⟨some 48, .bin .gtr (.t 47) (.c (.int .i64 0)), none, [0]⟩, ⟨some 49, .mv (.t 48), none, [1]⟩, ⟨some 50, .faddr 2 (.t 1), some (49, true), [2]⟩, ⟨some 51, .load false 1 (.t 50), some (49, true), [3, 2]⟩, ⟨some 52, .mv (.t 3), some (49, true), [2]⟩, ⟨some 53, .bin .sub (.t 52) (.c (.int .i64 1)), some (49, true), [5, 2]⟩, ⟨some 54, .iaddr 13 (.t 51) (.t 53), some (49, true), [4, 6, 2]⟩, ⟨some 55, .load true 13 (.t 54), some (49, true), [7, 2]⟩, ⟨some 56, .call 49 [.t 55], some (49, true), [8, 2, 2]⟩, ⟨some 57, .load true 13 (.t 4), some (49, true), [2]⟩, ⟨some 58, .call 49 [.t 57], some (49, true), [10, 9, 2]⟩, ⟨some 59, .call 50 [.t 56, .t 58], some (49, true), [9, 11, 11, 2]⟩, ⟨some 60, .bin .geq (.t 59) (.c (.int .i64 0)), some (49, true), [12, 2]⟩, ⟨some 61, .pick (.t 49) (.t 60) (.c (.bool false)), none, [2, 13]⟩]) (.cond (.t 61) (.seq (.reg false [⟨some 2, .mv (.c (.int .i64 1)), none, []⟩]) (.ret)) (.skip)))))) (.reg false [⟨some 62, .bin .add (.t 37) (.c (.int .i64 1)), none, []⟩, ⟨some 37, .mv (.t 62), none, []⟩]))))))) (.seq (.seq (.reg false [⟨some 63, .faddr 3 (.t 1), none, []⟩, ⟨some 64, .load false 1 (.t 63), none, []⟩, ⟨some 65, .len false (.t 64), none, []⟩, ⟨some 66, .mv (.c (.int .i64 0)), none, []⟩]) (.block 2 (.loop (.seq (.reg false [⟨some 67, .bin .lss (.t 66) (.t 65), none, []⟩]) (.seq (.cond (.t 67) (.skip) (.exit 2)) (.seq (.block 3 (.seq (.reg false [⟨some 68, .mv (.t 66), none, []⟩, ⟨some 69, .iaddr 3 (.t 64) (.t 66), none, []⟩, ⟨some 70, .load true 3 (.t 69), none, []⟩, ⟨some 7, .alloc 81 [.str [], .str [], .str []], none, []⟩, ⟨some 6, .mv (.t 68), none, []⟩, ⟨none, .store 3 (.t 7) (.t 70), none, []⟩]) (.seq (.reg true [⟨some 71, .faddr 2 (.t 7), none, []⟩, ⟨some 72, .load false 1 (.t 71), none, [0]⟩, ⟨some 73, .call 47 [.t 72], none, [1]⟩, ⟨some 74, .un .not (.t 73), none, [2]⟩, ⟨some 75, .mv (.t 74), none, [3, 2]⟩, ⟨some 76, .faddr 0 (.t 7), some (75, false), [4]⟩, ⟨some 77, .load false 1 (.t 76), some (75, false), [5, 4]⟩, ⟨some 78, .faddr 1 (.t 7), some (75, false), [4]⟩, ⟨some 79, .load false 1 (.t 78), some (75, false), [7, 4]⟩, ⟨some 80, .call 51 [.t 77, .t 79], some (75, false), [6, 8, 4, 4]⟩, ⟨some 81, .un .not (.t 80), some (75, false), [9, 4]⟩, ⟨some 82, .pick (.t 75) (.c (.bool true)) (.t 81), none, [4, 10]⟩, ⟨some 83, .mv (.t 82), none, [11, 9]⟩, ⟨some 84, .mv (.t 6), some (83, false), [12]⟩, ⟨some 85, .bin .gtr (.t 84) (.c (.int .i64 0)), some (83, false), [13, 12]⟩, ⟨some 86, .mv (.t 85), some (83, false), [14, 12, 12]⟩, ⟨some 87, .faddr 3 (.t 1), some (86, true), [15]⟩, ⟨some 88, .load false 1 (.t 87), some (86, true), [16, 15]⟩, ⟨some 89, .mv (.t 6), some (86, true), [15]⟩, ⟨some 90, .bin .sub (.t 89) (.c (.int .i64 1)), some (86, true), [18, 15]⟩, ⟨some 91, .iaddr 3 (.t 88) (.t 90), some (86, true), [17, 19, 15]⟩, ⟨some 92, .faddr 2 (.t 91), some (86, true), [20, 15]⟩, ⟨some 93, .load false 1 (.t 92), some (86, true), [21, 15]⟩, ⟨some 94, .faddr 2 (.t 7), some (86, true), [15]⟩, ⟨some 95, .load false 1 (.t 94), some (86, true), [23, 15]⟩, ⟨some 96, .bin .geq (.t 93) (.t 95), some (86, true), [22, 24, 15]⟩, ⟨some 97, .pick (.t 86) (.t 96) (.c (.bool false)), some (83, false), [15, 25, 12]⟩, ⟨some 98, .pick (.t 83) (.c (.bool true)) (.t 97), none, [12, 26]⟩]) (.cond (.t 98) (.seq (.reg false [⟨some 2, .mv (.c (.int .i64 1)), none, []⟩]) (.ret)) (.skip))))) (.reg false [⟨some 99, .bin .add (.t 66) (.c (.int .i64 1)), none, []⟩, ⟨some 66, .mv (.t 99), none, []⟩]))))))) (.seq (.seq (.reg false [⟨some 100, .faddr 4 (.t 1), none, []⟩, ⟨some 101, .load false 1 (.t 100), none, []⟩, ⟨some 102, .len false (.t 101), none, []⟩, ⟨some 103, .mv (.c (.int .i64 0)), none, []⟩]) (.block 4 (.loop (.seq (.reg false [⟨some 104, .bin .lss (.t 103) (.t 102), none, []⟩]) (.seq (.cond (.t 104) (.skip) (.exit 4)) (.seq (.block 5 (.seq (.reg false [⟨some 105, .mv (.t 103), none, []⟩, ⟨some 106, .iaddr 7 (.t 101) (.t 103), none, []⟩, ⟨some 107, .load true 7 (.t 106), none, []⟩, ⟨some 9, .alloc 83 [.str [], .int .i64 0, .int .i64 0, .str [], .sl 0 .nil [], .sl 0 .nil [], .bool false], none, []⟩, ⟨some 8, .mv (.t 105), none, []⟩, ⟨none, .store 7 (.t 9) (.t 107), none, []⟩]) (.seq (.seq (.reg false [⟨some 108, .load true 7 (.t 9), none, []⟩, ⟨some 109, .call 52 [.t 108], none, []⟩, ⟨some 10, .mv (.t 109), none, []⟩]) (.seq (.reg false [⟨some 110, .mv (.t 10), none, []⟩, ⟨some 111, .bin .neq (.t 110) (.c (.int .i64 0)), none, []⟩]) (.cond (.t 111) (.seq (.reg false [⟨some 112, .mv (.t 10), none, []⟩, ⟨some 2, .mv (.t 112), none, []⟩]) (.ret)) (.skip)))) (.seq (.reg true [⟨some 113, .mv (.t 8), none, []⟩, ⟨some 114, .bin .gtr (.t 113) (.c (.int .i64 0)), none, [0]⟩, ⟨some 115, .mv (.t 114), none, [1]⟩, ⟨some 116, .faddr 4 (.t 1), some (115, true), [2]⟩, ⟨some 117, .load false 1 (.t 116), some (115, true), [3, 2]⟩, ⟨some 118, .mv (.t 8), some (115, true), [2]⟩, ⟨some 119, .bin .sub (.t 118) (.c (.int .i64 1)), some (115, true), [5, 2]⟩, ⟨some 120, .iaddr 7 (.t 117) (.t 119), some (115, true), [4, 6, 2]⟩, ⟨some 121, .faddr 0 (.t 120), some (115, true), [7, 2]⟩, ⟨some 122, .load false 1 (.t 121), some (115, true), [8, 2]⟩, ⟨some 123, .faddr 0 (.t 9), some (115, true), [2]⟩, ⟨some 124, .load false 1 (.t 123), some (115, true), [10, 2]⟩, ⟨some 125, .bin .geq (.t 122) (.t 124), some (115, true), [9, 11, 2]⟩, ⟨some 126, .pick (.t 115) (.t 125) (.c (.bool false)), none, [2, 12]⟩]) (.cond (.t 126) (.seq (.reg false [⟨some 2, .mv (.c (.int .i64 1)), none, []⟩]) (.ret)) (.skip)))))) (.reg false [⟨some 127, .bin .add (.t 103) (.c (.int .i64 1)), none, []⟩, ⟨some 103, .mv (.t 127), none, []⟩]))))))) (.seq (.reg false [⟨some 2, .mv (.c (.int .i64 0)), none, []⟩]) (.ret)))))))), [.t 2]⟩
theorem h_scheck : AX.compFn Tryz.prog 20 = some c_scheck := by kernel_rfl

theorem a_stext (s : List UInt8) (hs : s.length ≤ 1000000) (h : Hp) : ACall Tryz.prog GT 47 [.str s] h fun r h' => r = .bool (s != [] && Str.valid s) ∧ h' = h := by
  refine pcall ?_ rfl (by simp [A.pure, A.data]) h
  refine acall_of mixedT h_stext (by simp [c_stext]) ?_
  dsimp only [c_stext]
  rcases bool_or (s != []) with h1 | h1
  · (refine AX.go0 h1 ?_)
    (refine AX.gc0 h1 ?_)
    refine (a_valid s hs _).mono ?_
    rintro v h1' ⟨rfl, rfl⟩
    (refine AX.go0 h1 ?_)
    exact ⟨_, le_refl _, by rw [tupA_1, h1]; rfl⟩
  · (refine AX.go0 h1 ?_)
    exact ⟨_, le_refl _, by rw [tupA_1, h1]; rfl⟩
theorem a_scheck0 (s : List UInt8) (n : Int) (hs : s.length ≤ 1000000) (hv : (s != [] && Str.valid s) = true) (h0 : 0 ≤ n) (h1 : n ≤ 9007199254740992) (h : Hp) : ACall Tryz.prog GT 20 [.agg [.str s, .int .i64 n, .sl 13 .no [], .sl 3 .no [], .sl 7 .no []]] h fun r h' => r = .int .i64 0 ∧ h' = h := by
  refine pcall ?_ rfl (by simp [A.pure, A.data]) h
  refine acall_of mixedT h_scheck (by simp [c_scheck]) ?_
  dsimp only [c_scheck]
  (refine AX.go0 trivial ?_)
  (refine AX.gc0 trivial ?_)
  refine (a_stext s hs _).mono ?_
  rintro v h1' ⟨rfl, rfl⟩
  rw [hv]
  have e1 : ¬ n < 0 := by omega
  have e2 : ¬ n > 9007199254740992 := by omega
  have hz : ¬ (0 : Int) < ((0 : Nat) : Int) := by decide
  have hg : ¬ ((0 : Nat) : Int) > ((0 : Nat) : Int) := by decide
  have hg2 : ¬ ((0 : Nat) : Int) > 512 := by decide
  (refine AX.go0 (And.intro e1 (And.intro e2 (And.intro hg hg2))) ?_)
  refine go_once ?_
  (refine AX.go0 hz ?_)
  refine go_once ?_
  (refine AX.go0 hz ?_)
  refine go_once ?_
  (refine AX.go0 hz ?_)
  exact ⟨_, le_refl _, rfl⟩
end AX
end Go.Proofs.YtdikbljgmpbpjaaGreatDoor

namespace Go.Proofs.YtdikbljgmpbpjaaGreatDoor
open Go.RowKit
set_option linter.unusedSimpArgs false
set_option linter.unusedVariables false
set_option maxHeartbeats 4000000
namespace AX
def c_encode : AX.AFn := ⟨29, .seq (.reg false [⟨some 2, .box 26 (.t 0), none, []⟩, ⟨some 4, .mv (.c (.str [])), none, []⟩, ⟨some 5, .mv (.c (.int .i64 0)), none, []⟩]) (.seq (.seq (.reg false [⟨some 8, .load true 5 (.t 2), none, []⟩, ⟨some 9, .call 20 [.t 8], none, []⟩, ⟨some 6, .mv (.t 9), none, []⟩]) (.seq (.reg false [⟨some 10, .mv (.t 6), none, []⟩, ⟨some 11, .bin .neq (.t 10) (.c (.int .i64 0)), none, []⟩]) (.cond (.t 11) (.seq (.reg false [⟨some 12, .mv (.t 6), none, []⟩, ⟨some 4, .mv (.c (.str [])), none, []⟩, ⟨some 5, .mv (.t 12), none, []⟩]) (.ret)) (.skip)))) (.seq (.reg false [⟨some 13, .mv (.t 1), none, []⟩, ⟨some 14, .build [.nilp, .sl 0 .nil [], .int .i64 0] [(2, 1, .t 13)], none, []⟩, ⟨some 15, .box 99 (.t 14), none, []⟩, ⟨some 7, .mv (.t 15), none, []⟩]) (.seq (.reg false [⟨some 16, .mv (.t 7), none, []⟩, ⟨some 17, .load true 5 (.t 2), none, []⟩, ⟨some 18, .call 70 [.t 16, .t 17], none, []⟩]) (.seq (.seq (.reg false [⟨some 19, .mv (.t 7), none, []⟩, ⟨some 20, .nilck (.t 19), none, []⟩, ⟨some 21, .faddr 0 (.t 20), none, []⟩, ⟨some 22, .call 71 [.t 21], none, []⟩, ⟨some 23, .bin .gtr (.t 22) (.c (.int .i64 1048572)), none, []⟩]) (.cond (.t 23) (.seq (.reg false [⟨some 4, .mv (.c (.str [])), none, []⟩, ⟨some 5, .mv (.c (.int .i64 3)), none, []⟩]) (.ret)) (.skip))) (.seq (.reg false [⟨some 24, .mv (.t 7), none, []⟩, ⟨some 25, .nilck (.t 24), none, []⟩, ⟨some 26, .faddr 0 (.t 25), none, []⟩, ⟨some 27, .call 57 [.t 26], none, []⟩, ⟨some 28, .call 72 [.t 27], none, []⟩, ⟨some 4, .mv (.t 28), none, []⟩, ⟨some 5, .mv (.c (.int .i64 0)), none, []⟩]) (.ret)))))), [.t 4, .t 5]⟩
theorem h_encode : AX.compFn Tryz.prog 36 = some c_encode := by kernel_rfl
def c_Encode : AX.AFn := ⟨8, .seq (.reg false [⟨some 1, .box 26 (.t 0), none, []⟩, ⟨some 2, .mv (.c (.str [])), none, []⟩, ⟨some 3, .mv (.c (.int .i64 0)), none, []⟩]) (.seq (.reg false [⟨some 4, .load true 5 (.t 1), none, []⟩, ⟨some 5, .call 36 [.t 4, .c (.int .i64 2)], none, []⟩, ⟨some 6, .extract (.t 5) 0, none, []⟩, ⟨some 7, .extract (.t 5) 1, none, []⟩, ⟨some 2, .mv (.t 6), none, []⟩, ⟨some 3, .mv (.t 7), none, []⟩]) (.ret)), [.t 2, .t 3]⟩
theorem h_Encode : AX.compFn Tryz.prog 11 = some c_Encode := by kernel_rfl
def c_EncodeOld : AX.AFn := ⟨8, .seq (.reg false [⟨some 1, .box 26 (.t 0), none, []⟩, ⟨some 2, .mv (.c (.str [])), none, []⟩, ⟨some 3, .mv (.c (.int .i64 0)), none, []⟩]) (.seq (.reg false [⟨some 4, .load true 5 (.t 1), none, []⟩, ⟨some 5, .call 36 [.t 4, .c (.int .i64 1)], none, []⟩, ⟨some 6, .extract (.t 5) 0, none, []⟩, ⟨some 7, .extract (.t 5) 1, none, []⟩, ⟨some 2, .mv (.t 6), none, []⟩, ⟨some 3, .mv (.t 7), none, []⟩]) (.ret)), [.t 2, .t 3]⟩
theorem h_EncodeOld : AX.compFn Tryz.prog 13 = some c_EncodeOld := by kernel_rfl
def c_Decode : AX.AFn := ⟨64, .seq (.reg false [⟨some 2, .alloc 26 [.str [], .int .i64 0, .sl 0 .nil [], .sl 0 .nil [], .sl 0 .nil []], none, []⟩, ⟨some 3, .mv (.c (.int .i64 0)), none, []⟩]) (.seq (.seq (.reg false [⟨some 9, .mv (.t 0), none, []⟩, ⟨some 10, .len true (.t 9), none, []⟩, ⟨some 11, .bin .gtr (.t 10) (.c (.int .i64 1048576)), none, []⟩]) (.cond (.t 11) (.seq (.reg false [⟨some 12, .build [.str [], .int .i64 0, .sl 0 .nil [], .sl 0 .nil [], .sl 0 .nil []] [], none, []⟩, ⟨none, .store 5 (.t 2) (.t 12), none, []⟩, ⟨some 3, .mv (.c (.int .i64 3)), none, []⟩]) (.ret)) (.skip))) (.seq (.seq (.reg false [⟨some 13, .mv (.t 0), none, []⟩, ⟨some 14, .call 38 [.t 13, .c (.str [80, 86, 83, 84])], none, []⟩, ⟨some 15, .un .not (.t 14), none, []⟩]) (.cond (.t 15) (.seq (.reg false [⟨some 16, .build [.str [], .int .i64 0, .sl 0 .nil [], .sl 0 .nil [], .sl 0 .nil []] [], none, []⟩, ⟨none, .store 5 (.t 2) (.t 16), none, []⟩, ⟨some 3, .mv (.c (.int .i64 2)), none, []⟩]) (.ret)) (.skip))) (.seq (.reg false [⟨some 18, .mv (.t 0), none, []⟩, ⟨some 19, .call 39 [.t 18], none, []⟩, ⟨some 17, .mv (.t 19), none, []⟩, ⟨some 20, .extract (.t 17) 0, none, []⟩, ⟨some 21, .extract (.t 17) 1, none, []⟩, ⟨some 4, .mv (.t 20), none, []⟩, ⟨some 5, .mv (.t 21), none, []⟩]) (.seq (.seq (.reg false [⟨some 22, .mv (.t 5), none, []⟩, ⟨some 23, .bin .neq (.t 22) (.c (.int .i64 0)), none, []⟩]) (.cond (.t 23) (.seq (.reg false [⟨some 24, .build [.str [], .int .i64 0, .sl 0 .nil [], .sl 0 .nil [], .sl 0 .nil []] [], none, []⟩, ⟨none, .store 5 (.t 2) (.t 24), none, []⟩, ⟨some 3, .mv (.c (.int .i64 20)), none, []⟩]) (.ret)) (.skip))) (.seq (.reg false [⟨some 26, .mv (.t 4), none, []⟩, ⟨some 27, .call 17 [.t 26], none, []⟩, ⟨some 25, .mv (.t 27), none, []⟩, ⟨some 28, .extract (.t 25) 0, none, []⟩, ⟨some 29, .extract (.t 25) 1, none, []⟩, ⟨some 6, .mv (.t 28), none, []⟩, ⟨some 5, .mv (.t 29), none, []⟩]) (.seq (.seq (.reg false [⟨some 30, .mv (.t 5), none, []⟩, ⟨some 31, .bin .neq (.t 30) (.c (.int .i64 0)), none, []⟩]) (.cond (.t 31) (.seq (.reg false [⟨some 32, .build [.str [], .int .i64 0, .sl 0 .nil [], .sl 0 .nil [], .sl 0 .nil []] [], none, []⟩, ⟨some 33, .mv (.t 5), none, []⟩, ⟨none, .store 5 (.t 2) (.t 32), none, []⟩, ⟨some 3, .mv (.t 33), none, []⟩]) (.ret)) (.skip))) (.seq (.reg false [⟨some 34, .mv (.t 4), none, []⟩, ⟨some 35, .ssl (.t 34) (some (.c (.int .i64 4))) none, none, []⟩, ⟨some 36, .call 25 [.t 35], none, []⟩, ⟨some 37, .mv (.t 6), none, []⟩, ⟨some 38, .build [.nilp, .int .i64 0, .bool false] [(0, 1, .t 36), (1, 1, .t 37)], none, []⟩, ⟨some 39, .box 73 (.t 38), none, []⟩, ⟨some 7, .mv (.t 39), none, []⟩]) (.seq (.reg false [⟨some 40, .mv (.t 7), none, []⟩, ⟨some 41, .nilck (.t 40), none, []⟩, ⟨some 42, .faddr 0 (.t 41), none, []⟩, ⟨some 43, .load false 1 (.t 42), none, []⟩, ⟨some 44, .call 40 [.t 43], none, []⟩]) (.seq (.reg false [⟨some 45, .mv (.t 7), none, []⟩, ⟨some 46, .call 41 [.t 45], none, []⟩, ⟨some 8, .alloc 26 [.str [], .int .i64 0, .sl 0 .nil [], .sl 0 .nil [], .sl 0 .nil []], none, []⟩, ⟨none, .store 5 (.t 8) (.t 46), none, []⟩]) (.seq (.seq (.reg false [⟨some 47, .mv (.t 7), none, []⟩, ⟨some 48, .call 42 [.t 47], none, []⟩, ⟨some 49, .mv (.t 48), none, []⟩, ⟨some 50, .mv (.t 7), some (49, false), []⟩, ⟨some 51, .nilck (.t 50), some (49, false), []⟩, ⟨some 52, .faddr 0 (.t 51), some (49, false), []⟩, ⟨some 53, .load false 1 (.t 52), some (49, false), []⟩, ⟨some 54, .call 30 [.t 53], some (49, false), []⟩, ⟨some 55, .bin .gtr (.t 54) (.c (.int .i64 0)), some (49, false), []⟩, ⟨some 56, .pick (.t 49) (.c (.bool true)) (.t 55), none, []⟩, ⟨some 57, .mv (.t 56), none, []⟩, ⟨some 58, .load true 5 (.t 8), some (57, false), []⟩, ⟨some 59, .call 20 [.t 58], some (57, false), []⟩, ⟨some 60, .bin .neq (.t 59) (.c (.int .i64 0)), some (57, false), []⟩, ⟨some 61, .pick (.t 57) (.c (.bool true)) (.t 60), none, []⟩]) (.cond (.t 61) (.seq (.reg false [⟨some 62, .build [.str [], .int .i64 0, .sl 0 .nil [], .sl 0 .nil [], .sl 0 .nil []] [], none, []⟩, ⟨none, .store 5 (.t 2) (.t 62), none, []⟩, ⟨some 3, .mv (.c (.int .i64 2)), none, []⟩]) (.ret)) (.skip))) (.seq (.reg false [⟨some 63, .load true 5 (.t 8), none, []⟩, ⟨none, .store 5 (.t 2) (.t 63), none, []⟩, ⟨some 3, .mv (.c (.int .i64 0)), none, []⟩]) (.ret)))))))))))), [.c 2 true 5, .t 3]⟩
theorem h_Decode : AX.compFn Tryz.prog 15 = some c_Decode := by kernel_rfl
def c_awake : AX.AFn := ⟨91, .seq (.reg false [⟨some 0, .mv (.c (.bool false)), none, []⟩]) (.seq (.reg false [⟨some 14, .build [.str [], .int .i64 0, .sl 0 .nil [], .sl 0 .nil [], .sl 0 .nil []] [(0, 1, .c (.str [97])), (1, 1, .c (.int .i64 1))], none, []⟩, ⟨some 1, .alloc 26 [.str [], .int .i64 0, .sl 0 .nil [], .sl 0 .nil [], .sl 0 .nil []], none, []⟩, ⟨none, .store 5 (.t 1) (.t 14), none, []⟩]) (.seq (.reg false [⟨some 16, .load true 5 (.t 1), none, []⟩, ⟨some 17, .call 11 [.t 16], none, []⟩, ⟨some 15, .mv (.t 17), none, []⟩, ⟨some 18, .extract (.t 15) 0, none, []⟩, ⟨some 19, .extract (.t 15) 1, none, []⟩, ⟨some 2, .mv (.t 18), none, []⟩, ⟨some 3, .mv (.t 19), none, []⟩]) (.seq (.reg false [⟨some 21, .load true 5 (.t 1), none, []⟩, ⟨some 22, .call 13 [.t 21], none, []⟩, ⟨some 20, .mv (.t 22), none, []⟩, ⟨some 23, .extract (.t 20) 0, none, []⟩, ⟨some 24, .extract (.t 20) 1, none, []⟩, ⟨some 4, .mv (.t 23), none, []⟩, ⟨some 5, .mv (.t 24), none, []⟩]) (.seq (.reg false [⟨some 26, .call 15 [.c (.str [])], none, []⟩, ⟨some 25, .mv (.t 26), none, []⟩, ⟨some 27, .extract (.t 25) 0, none, []⟩, ⟨some 28, .extract (.t 25) 1, none, []⟩, ⟨some 6, .alloc 26 [.str [], .int .i64 0, .sl 0 .nil [], .sl 0 .nil [], .sl 0 .nil []], none, []⟩, ⟨none, .store 5 (.t 6) (.t 27), none, []⟩, ⟨some 7, .mv (.t 28), none, []⟩]) (.seq (.reg false [⟨some 30, .call 15 [.c (.str [80, 86, 83, 84])], none, []⟩, ⟨some 29, .mv (.t 30), none, []⟩, ⟨some 31, .extract (.t 29) 0, none, []⟩, ⟨some 32, .extract (.t 29) 1, none, []⟩, ⟨some 8, .alloc 26 [.str [], .int .i64 0, .sl 0 .nil [], .sl 0 .nil [], .sl 0 .nil []], none, []⟩, ⟨none, .store 5 (.t 8) (.t 31), none, []⟩, ⟨some 9, .mv (.t 32), none, []⟩]) (.seq (.reg false [⟨some 34, .mv (.t 2), none, []⟩, ⟨some 35, .call 17 [.t 34], none, []⟩, ⟨some 33, .mv (.t 35), none, []⟩, ⟨some 36, .extract (.t 33) 0, none, []⟩, ⟨some 37, .extract (.t 33) 1, none, []⟩, ⟨some 10, .mv (.t 36), none, []⟩, ⟨some 11, .mv (.t 37), none, []⟩]) (.seq (.reg false [⟨some 39, .call 17 [.c (.str [80, 86, 83, 84, 6])], none, []⟩, ⟨some 38, .mv (.t 39), none, []⟩, ⟨some 40, .extract (.t 38) 0, none, []⟩, ⟨some 41, .extract (.t 38) 1, none, []⟩, ⟨some 12, .mv (.t 40), none, []⟩, ⟨some 13, .mv (.t 41), none, []⟩]) (.seq (.seq (.reg false [⟨some 42, .mv (.t 3), none, []⟩, ⟨some 43, .bin .neq (.t 42) (.c (.int .i64 0)), none, []⟩, ⟨some 44, .mv (.t 43), none, []⟩, ⟨some 45, .mv (.t 5), some (44, false), []⟩, ⟨some 46, .bin .neq (.t 45) (.c (.int .i64 0)), some (44, false), []⟩, ⟨some 47, .pick (.t 44) (.c (.bool true)) (.t 46), none, []⟩, ⟨some 48, .mv (.t 47), none, []⟩, ⟨some 49, .mv (.t 2), some (48, false), []⟩, ⟨some 50, .len true (.t 49), some (48, false), []⟩, ⟨some 51, .bin .neq (.t 50) (.c (.int .i64 15)), some (48, false), []⟩, ⟨some 52, .pick (.t 48) (.c (.bool true)) (.t 51), none, []⟩, ⟨some 53, .mv (.t 52), none, []⟩, ⟨some 54, .mv (.t 4), some (53, false), []⟩, ⟨some 55, .len true (.t 54), some (53, false), []⟩, ⟨some 56, .bin .neq (.t 55) (.c (.int .i64 14)), some (53, false), []⟩, ⟨some 57, .pick (.t 53) (.c (.bool true)) (.t 56), none, []⟩]) (.cond (.t 57) (.seq (.reg false [⟨some 0, .mv (.c (.bool false)), none, []⟩]) (.ret)) (.skip))) (.seq (.reg false [⟨some 58, .mv (.t 2), none, []⟩, ⟨some 59, .ssl (.t 58) none (some (.c (.int .i64 11))), none, []⟩, ⟨some 60, .bin .eql (.t 59) (.c (.str [80, 86, 83, 84, 4, 2, 97, 2, 0, 0, 0])), none, []⟩, ⟨some 61, .mv (.t 60), none, []⟩, ⟨some 62, .mv (.t 4), some (61, true), []⟩, ⟨some 63, .sidx (.t 62) (.c (.int .i64 4)), some (61, true), []⟩, ⟨some 64, .bin .eql (.t 63) (.c (.int .u8 2)), some (61, true), []⟩, ⟨some 65, .pick (.t 61) (.t 64) (.c (.bool false)), none, []⟩, ⟨some 66, .mv (.t 65), none, []⟩, ⟨some 67, .mv (.t 7), some (66, true), []⟩, ⟨some 68, .bin .eql (.t 67) (.c (.int .i64 2)), some (66, true), []⟩, ⟨some 69, .pick (.t 66) (.t 68) (.c (.bool false)), none, []⟩, ⟨some 70, .mv (.t 69), none, []⟩, ⟨some 71, .mv (.t 9), some (70, true), []⟩, ⟨some 72, .bin .eql (.t 71) (.c (.int .i64 20)), some (70, true), []⟩, ⟨some 73, .pick (.t 70) (.t 72) (.c (.bool false)), none, []⟩, ⟨some 74, .mv (.t 73), none, []⟩, ⟨some 75, .mv (.t 10), some (74, true), []⟩, ⟨some 76, .bin .eql (.t 75) (.c (.int .i64 2)), some (74, true), []⟩, ⟨some 77, .pick (.t 74) (.t 76) (.c (.bool false)), none, []⟩, ⟨some 78, .mv (.t 77), none, []⟩, ⟨some 79, .mv (.t 11), some (78, true), []⟩, ⟨some 80, .bin .eql (.t 79) (.c (.int .i64 0)), some (78, true), []⟩, ⟨some 81, .pick (.t 78) (.t 80) (.c (.bool false)), none, []⟩, ⟨some 82, .mv (.t 81), none, []⟩, ⟨some 83, .mv (.t 13), some (82, true), []⟩, ⟨some 84, .bin .eql (.t 83) (.c (.int .i64 21)), some (82, true), []⟩, ⟨some 85, .pick (.t 82) (.t 84) (.c (.bool false)), none, []⟩, ⟨some 86, .mv (.t 85), none, []⟩, ⟨some 87, .build [.int .i64 0, .int .i64 0, .str [], .sl 0 .nil [], .sl 0 .nil []] [(0, 1, .c (.int .i64 1)), (1, 1, .c (.int .i64 1))], some (86, true), []⟩, ⟨some 88, .call 23 [.c (.str []), .t 87], some (86, true), []⟩, ⟨some 89, .bin .eql (.t 88) (.c (.str [2, 2])), some (86, true), []⟩, ⟨some 90, .pick (.t 86) (.t 89) (.c (.bool false)), none, []⟩, ⟨some 0, .mv (.t 90), none, []⟩]) (.ret)))))))))), [.t 0]⟩
theorem h_awake : AX.compFn Tryz.prog 10 = some c_awake := by kernel_rfl

theorem a_csAppend (s : List UInt8) (hs : s.length ≤ 1000000000) (h : Hp) : ACall Tryz.prog GT 72 [.str s] h fun v h' => v = .str (Crc.app s) ∧ h' = h :=
  acall_imp (args1 r_str) (fun w hg => append_any ⟨s.toArray⟩ w (by rw [size_mk]; exact hs)) (fun C => rep_str.2 rfl) h
theorem a_csVerify (s : List UInt8) (hs : s.length ≤ 1000000000) (h : Hp) : ACall Tryz.prog GT 39 [.str s] h fun v h' => v = .tup [.str (Crc.ver s).1, .int .i64 (Crc.ver s).2] ∧ h' = h :=
  acall_imp (args1 r_str) (fun w hg => verify_any ⟨s.toArray⟩ w (by rw [size_mk]; exact hs)) (fun C => rep_tup.2 ⟨_, rfl, repL_cons.2 ⟨_, _, rfl, rep_str.2 rfl, repL_cons.2 ⟨_, _, rfl, rep_int.2 rfl, repL_nil.2 rfl⟩⟩⟩) h
theorem state0_len (ver : Int) (s : List UInt8) (n : Int) : 4 ≤ (state0 ver s n).length ∧ (state0 ver s n).length ≤ s.length + 64 := by
  have l1 := num_len ver
  have l2 := num_len s.length
  have l3 := num_len n
  have l4 := num_len 0
  have l5 : (Wire.strE s).length = (Wire.num s.length).length + s.length := by unfold Wire.strE; rw [List.length_append]
  have l6 : magic.length = 4 := rfl
  unfold state0
  split <;> simp only [List.length_append, List.length_nil, l5, l6] <;> omega
theorem a_encode0 (ver : Int) (s : List UInt8) (n : Int) (hs : s.length ≤ 100000) (hv : (s != [] && Str.valid s) = true) (h0 : 0 ≤ n) (h1 : n ≤ 9007199254740992) (hver : ver = 1 ∨ ver = 2) (h : Hp) :
    ACall Tryz.prog GT 36 [.agg [.str s, .int .i64 n, .sl 0 .nil [], .sl 0 .nil [], .sl 0 .nil []], .int .i64 ver] h fun r h' => r = .tup [.str (Crc.app (state0 ver s n)), .int .i64 0] ∧ h' = h := by
  refine pcall ?_ rfl (by simp [A.pure, A.data]) h
  refine acall_of mixedT h_encode (by simp [c_encode]) ?_
  dsimp only [c_encode]
  have hl := state0_len ver s n
  have hg : ¬ ((state0 ver s n).length : Int) > 1048572 := by omega
  have hne : state0 ver s n ≠ [] := by intro e; rw [e] at hl; simp at hl
  (refine AX.go0 trivial ?_)
  (refine AX.gc0 trivial ?_)
  refine (a_scheck0 s n (by omega) hv h0 h1 _).args ?_ |>.mono ?_
  · exact ⟨⟨rfl, rfl, ⟨rfl, .inr rfl, .inl rfl⟩, ⟨rfl, .inr rfl, .inl rfl⟩, ⟨rfl, .inr rfl, .inl rfl⟩, trivial⟩, trivial⟩
  rintro v h' ⟨rfl, rfl⟩
  (refine AX.go0 trivial ?_)
  (refine AX.gc0 trivial ?_)
  refine (a_wstate0 (i := 1) (ver := ver) (.inr ⟨rfl, rfl⟩) s n (by omega) (by omega) (by omega) hver).mono ?_
  intro v h2 p2
  (refine AX.go0 trivial ?_)
  (refine AX.gc0 trivial ?_)
  refine (a_wlen p2.1).mono ?_
  rintro v h' ⟨rfl, rfl⟩
  (refine AX.go0 hg ?_)
  (refine AX.gc0 trivial ?_)
  refine (a_wstring p2.1 hne).mono ?_
  rintro v h' ⟨rfl, rfl⟩
  (refine AX.go0 trivial ?_)
  (refine AX.gc0 trivial ?_)
  refine (a_csAppend _ (by omega) _).mono ?_
  rintro v h' ⟨rfl, rfl⟩
  (refine AX.go0 trivial ?_)
  exact ⟨_, le_refl _, rfl⟩
theorem a_Encode0 (s : List UInt8) (n : Int) (hs : s.length ≤ 100000) (hv : (s != [] && Str.valid s) = true) (h0 : 0 ≤ n) (h1 : n ≤ 9007199254740992) (h : Hp) :
    ACall Tryz.prog GT 11 [.agg [.str s, .int .i64 n, .sl 0 .nil [], .sl 0 .nil [], .sl 0 .nil []]] h fun r h' => r = .tup [.str (Crc.app (state0 2 s n)), .int .i64 0] ∧ h' = h := by
  refine pcall ?_ rfl (by simp [A.pure, A.data]) h
  refine acall_of mixedT h_Encode (by simp [c_Encode]) ?_
  dsimp only [c_Encode]
  (refine AX.go0 trivial ?_)
  (refine AX.gc0 trivial ?_)
  refine (a_encode0 2 s n hs hv h0 h1 (.inr rfl) _).mono ?_
  rintro v h' ⟨rfl, rfl⟩
  (refine AX.go0 trivial ?_)
  exact ⟨_, le_refl _, rfl⟩
theorem a_EncodeOld0 (s : List UInt8) (n : Int) (hs : s.length ≤ 100000) (hv : (s != [] && Str.valid s) = true) (h0 : 0 ≤ n) (h1 : n ≤ 9007199254740992) (h : Hp) :
    ACall Tryz.prog GT 13 [.agg [.str s, .int .i64 n, .sl 0 .nil [], .sl 0 .nil [], .sl 0 .nil []]] h fun r h' => r = .tup [.str (Crc.app (state0 1 s n)), .int .i64 0] ∧ h' = h := by
  refine pcall ?_ rfl (by simp [A.pure, A.data]) h
  refine acall_of mixedT h_EncodeOld (by simp [c_EncodeOld]) ?_
  dsimp only [c_EncodeOld]
  (refine AX.go0 trivial ?_)
  (refine AX.gc0 trivial ?_)
  refine (a_encode0 1 s n hs hv h0 h1 (.inl rfl) _).mono ?_
  rintro v h' ⟨rfl, rfl⟩
  (refine AX.go0 trivial ?_)
  exact ⟨_, le_refl _, rfl⟩
def stE : A := .agg [.str [], .int .i64 0, .sl 0 .nil [], .sl 0 .nil [], .sl 0 .nil []]
theorem a_Decode_e (h : Hp) : ACall Tryz.prog GT 15 [.str []] h fun r h' => r = .tup [stE, .int .i64 2] ∧ h' = h := by
  refine pcall ?_ rfl (by simp [A.pure, A.data]) h
  refine acall_of mixedT h_Decode (by simp [c_Decode]) ?_
  dsimp only [c_Decode]
  have hg : ¬ ((0 : Nat) : Int) > 1048576 := by decide
  (refine AX.go0 hg ?_)
  (refine AX.gc0 trivial ?_)
  refine (a_hasPrefix [] magic _).mono ?_
  rintro v h' ⟨rfl, rfl⟩
  (refine AX.go0 (show magic = [80, 86, 83, 84] from rfl) ?_)
  exact ⟨_, le_refl _, rfl⟩
theorem a_Decode_m (h : Hp) : ACall Tryz.prog GT 15 [.str [80, 86, 83, 84]] h fun r h' => r = .tup [stE, .int .i64 20] ∧ h' = h := by
  refine pcall ?_ rfl (by simp [A.pure, A.data]) h
  refine acall_of mixedT h_Decode (by simp [c_Decode]) ?_
  dsimp only [c_Decode]
  have hg : ¬ ((4 : Nat) : Int) > 1048576 := by decide
  have hb : (decide (magic.length ≤ [80, 86, 83, 84].length) && List.take magic.length [80, 86, 83, 84] == magic) = true := by decide
  have hv : Crc.ver [80, 86, 83, 84] = ([], 20) := by decide +kernel
  (refine AX.go0 hg ?_)
  (refine AX.gc0 trivial ?_)
  refine (a_hasPrefix [80, 86, 83, 84] magic _).mono ?_
  rintro v h' ⟨hv', rfl⟩
  obtain rfl : v = .bool true := hv'.trans (congrArg A.bool (by decide))
  (refine AX.go0 trivial ?_)
  (refine AX.gc0 trivial ?_)
  refine (a_csVerify [80, 86, 83, 84] (by decide) _).mono ?_
  rintro v h' ⟨rfl, rfl⟩
  rw [hv]
  (refine AX.go0 trivial ?_)
  exact ⟨_, le_refl _, rfl⟩
theorem awake32 : Awake := by
  intro h
  refine pcall ?_ rfl (by simp [A.pure, A.data]) h
  refine acall_of mixedT h_awake (by simp [c_awake]) ?_
  dsimp only [c_awake]
  have e2 : Crc.app (state0 2 [97] 1) = [80, 86, 83, 84, 4, 2, 97, 2, 0, 0, 0] ++ (Crc.app (state0 2 [97] 1)).drop 11 := by decide +kernel
  have l2 : (Crc.app (state0 2 [97] 1)).length = 15 := by decide +kernel
  obtain ⟨x2, hx2⟩ : ∃ x, Crc.app (state0 2 [97] 1) = x := ⟨_, rfl⟩
  have v2 : versionS (Crc.app (state0 2 [97] 1)) = (2, 0) := by decide +kernel
  have t2 : (Crc.app (state0 2 [97] 1)).take 11 = [80, 86, 83, 84, 4, 2, 97, 2, 0, 0, 0] := by decide +kernel
  have l1 : (Crc.app (state0 1 [97] 1)).length = 14 := by decide +kernel
  have g1 : ((Crc.app (state0 1 [97] 1)).getD 4 0).toNat = 2 := by decide +kernel
  have v3 : versionS [80, 86, 83, 84, 6] = (0, 21) := by decide +kernel
  have hva : ([97] != [] && Str.valid [97]) = true := by decide +kernel
  obtain ⟨x1, hx1⟩ : ∃ x, Crc.app (state0 1 [97] 1) = x := ⟨_, rfl⟩
  rw [hx2] at v2 t2 l2
  rw [hx1] at l1 g1
  (refine AX.go0 trivial ?_)
  (refine AX.gc0 trivial ?_)
  refine (a_Encode0 [97] 1 (by decide) hva (by decide) (by decide) _).mono ?_
  rintro v h' ⟨rfl, rfl⟩
  rw [hx2]
  (refine AX.go0 trivial ?_)
  (refine AX.gc0 trivial ?_)
  refine (a_EncodeOld0 [97] 1 (by decide) hva (by decide) (by decide) _).mono ?_
  rintro v h' ⟨rfl, rfl⟩
  rw [hx1]
  (refine AX.go0 trivial ?_)
  (refine AX.gc0 trivial ?_)
  refine (a_Decode_e _).mono ?_
  rintro v h' ⟨rfl, rfl⟩
  unfold stE
  (refine AX.go0 trivial ?_)
  (refine AX.gc0 trivial ?_)
  refine (a_Decode_m _).mono ?_
  rintro v h' ⟨rfl, rfl⟩
  unfold stE
  (refine AX.go0 trivial ?_)
  (refine AX.gc0 trivial ?_)
  refine (a_version x2 (by omega) _).mono ?_
  rintro v h' ⟨rfl, rfl⟩
  rw [v2]
  (refine AX.go0 trivial ?_)
  (refine AX.gc0 trivial ?_)
  refine (a_version [80, 86, 83, 84, 6] (by decide) _).mono ?_
  rintro v h' ⟨rfl, rfl⟩
  rw [v3]
  have m2 : ((x2.length : Int) != 15) = false := by rw [l2]; decide
  have m1 : ((x1.length : Int) != 14) = false := by rw [l1]; decide
  have b1 : (x2.take 11 == [80, 86, 83, 84, 4, 2, 97, 2, 0, 0, 0]) = true := by rw [t2]; decide
  have b2 : (((x1.getD 4 0).toNat : Int) == 2) = true := by rw [g1]; decide
  have c1 : (0 : Int) ≤ 11 := by decide
  have c2 : (11 : Int) ≤ (x2.length : Int) := by rw [l2]; decide
  have c3 : (0 : Int) ≤ 4 := by decide
  have c4 : (4 : Int) < (x1.length : Int) := by rw [l1]; decide
  have e11 : (11 : Int).toNat = 11 := rfl
  have e4 : (4 : Int).toNat = 4 := rfl
  (refine AX.go0 (And.intro m1 (And.intro m2 (And.intro b1 (And.intro b2 (And.intro c1 (And.intro c2 (And.intro c3 (And.intro c4 (And.intro e11 e4))))))))) ?_)
  (refine AX.gc0 trivial ?_)
  refine ((a_AppendValue [] (by simp) (.mk 1 1 [] [] []) ⟨1, 0, by decide +kernel⟩ (by decide +kernel) (by unfold V.lens V.lensS; simp) _).args ?_).mono ?_
  · exact ⟨rfl, ⟨rfl, rfl, rfl, ⟨rfl, .inr rfl, .inl rfl⟩, ⟨rfl, .inr rfl, .inl rfl⟩, trivial⟩, trivial⟩
  rintro v h' ⟨rfl, rfl⟩
  have ev : [] ++ Val.enc (.mk 1 1 [] [] []) = [2, 2] := by decide +kernel
  (refine AX.go0 ev ?_)
  exact ⟨_, le_refl _, rfl⟩
theorem w_valueBack32 (v : V) (hw : v.Wf) (more : List UInt8) {n : Nat} (k : n ≤ maxLen) : ACall Tryz.prog GT 7 [v.A, .str more] ⟨[], []⟩ fun r _ => r = .bool true := w_valueBack awake32 v (V.Wf.lens v hw) more
end AX
end Go.Proofs.YtdikbljgmpbpjaaGreatDoor
