/- Part of what the proof needs. -/
import Derived.Test.YtnjkemakcejceaaGreatDoorMFrStatefileBackUptoF
import Derived.Test.YtnjkemakcejceaaGreatDoorMFrStatefileBackUptoI
import Derived.Test.YtnjkemakcejceaaGreatDoorMFrStatefileBackUptoK
set_option linter.unusedSimpArgs false
set_option linter.unusedVariables false
set_option linter.unnecessarySimpa false
namespace Go.Proofs.YtnjkemakcejceaaGreatDoor
open Go.RowKit
set_option maxHeartbeats 4000000
namespace AX
def c_stext : AX.AFn := ⟨9, .seq (.reg false [⟨some 2, .mv (.c (.bool false)), none, []⟩]) (.seq (.reg false [⟨some 3, .mv (.t 0), none, []⟩, ⟨some 4, .bin .neq (.t 3) (.c (.str [])), none, []⟩, ⟨some 5, .mv (.t 4), none, []⟩, ⟨some 6, .mv (.t 0), some (5, true), []⟩, ⟨some 7, .call 74 [.t 6], some (5, true), []⟩, ⟨some 8, .pick (.t 5) (.t 7) (.c (.bool false)), none, []⟩, ⟨some 2, .mv (.t 8), none, []⟩]) (.ret)), [.t 2]⟩
theorem h_stext : AX.compFn Tryz.prog 39 = some c_stext := by kernel_rfl
def c_scheck : AX.AFn := ⟨128, .seq (.reg false [⟨some 1, .box 26 (.t 0), none, []⟩, ⟨some 2, .mv (.c (.int .i64 0)), none, []⟩]) (.seq (.seq (.reg false [⟨some 11, .faddr 0 (.t 1), none, []⟩, ⟨some 12, .load false 1 (.t 11), none, []⟩, ⟨some 13, .call 39 [.t 12], none, []⟩, ⟨some 14, .un .not (.t 13), none, []⟩]) (.cond (.t 14) (.seq (.reg false [⟨some 2, .mv (.c (.int .i64 1)), none, []⟩]) (.ret)) (.skip))) (.seq (.seq (.reg false [⟨some 15, .faddr 1 (.t 1), none, []⟩, ⟨some 16, .load false 1 (.t 15), none, []⟩, ⟨some 17, .bin .lss (.t 16) (.c (.int .i64 0)), none, []⟩, ⟨some 18, .mv (.t 17), none, []⟩, ⟨some 19, .faddr 1 (.t 1), some (18, false), []⟩, ⟨some 20, .load false 1 (.t 19), some (18, false), []⟩, ⟨some 21, .bin .gtr (.t 20) (.c (.int .i64 9007199254740992)), some (18, false), []⟩, ⟨some 22, .pick (.t 18) (.c (.bool true)) (.t 21), none, []⟩]) (.cond (.t 22) (.seq (.reg false [⟨some 2, .mv (.c (.int .i64 5)), none, []⟩]) (.ret)) (.skip))) (.seq (.seq (.reg false [⟨some 23, .faddr 2 (.t 1), none, []⟩, ⟨some 24, .load false 1 (.t 23), none, []⟩, ⟨some 25, .len false (.t 24), none, []⟩, ⟨some 26, .faddr 3 (.t 1), none, []⟩, ⟨some 27, .load false 1 (.t 26), none, []⟩, ⟨some 28, .len false (.t 27), none, []⟩, ⟨some 29, .faddr 4 (.t 1), none, []⟩, ⟨some 30, .load false 1 (.t 29), none, []⟩, ⟨some 31, .len false (.t 30), none, []⟩, ⟨some 32, .max3 (.t 25) (.t 28) (.t 31), none, []⟩, ⟨some 33, .bin .gtr (.t 32) (.c (.int .i64 512)), none, []⟩]) (.cond (.t 33) (.seq (.reg false [⟨some 2, .mv (.c (.int .i64 14)), none, []⟩]) (.ret)) (.skip))) (.seq (.seq (.reg false [⟨some 34, .faddr 2 (.t 1), none, []⟩, ⟨some 35, .load false 1 (.t 34), none, []⟩, ⟨some 36, .len false (.t 35), none, []⟩, ⟨some 37, .mv (.c (.int .i64 0)), none, []⟩]) (.block 0 (.loop (.seq (.reg false [⟨some 38, .bin .lss (.t 37) (.t 36), none, []⟩]) (.seq (.cond (.t 38) (.skip) (.exit 0)) (.seq (.block 1 (.seq (.reg false [⟨some 39, .mv (.t 37), none, []⟩, ⟨some 40, .iaddr 13 (.t 35) (.t 37), none, []⟩, ⟨some 41, .load true 13 (.t 40), none, []⟩, ⟨some 4, .alloc 42 [.str [], .str [], .str [], .str [], .int .i64 0, .int .i64 0, .str [], .sl 0 .nil [], .sl 0 .nil [], .int .i64 0, .bool false, .bool false, .sl 0 .nil []], none, []⟩, ⟨some 3, .mv (.t 39), none, []⟩, ⟨none, .store 13 (.t 4) (.t 41), none, []⟩]) (.seq (.seq (.reg false [⟨some 42, .load true 13 (.t 4), none, []⟩, ⟨some 43, .call 40 [.t 42], none, []⟩, ⟨some 5, .mv (.t 43), none, []⟩]) (.seq (.reg false [⟨some 44, .mv (.t 5), none, []⟩, ⟨some 45, .bin .neq (.t 44) (.c (.int .i64 0)), none, []⟩]) (.cond (.t 45) (.seq (.reg false [⟨some 46, .mv (.t 5), none, []⟩, ⟨some 2, .mv (.t 46), none, []⟩]) (.ret)) (.skip)))) (.seq (.reg true [⟨some 47, .mv (.t 3), none, []⟩, ⟨some 48, .bin .gtr (.t 47) (.c (.int .i64 0)), none, [0]⟩, ⟨some 49, .mv (.t 48), none, [1]⟩, ⟨some 50, .faddr 2 (.t 1), some (49, true), [2]⟩, ⟨some 51, .load false 1 (.t 50), some (49, true), [3, 2]⟩, ⟨some 52, .mv (.t 3), some (49, true), [2]⟩, ⟨some 53, .bin .sub (.t 52) (.c (.int .i64 1)), some (49, true), [5, 2]⟩, ⟨some 54, .iaddr 13 (.t 51) (.t 53), some (49, true), [4, 6, 2]⟩, ⟨some 55, .load true 13 (.t 54), some (49, true), [7, 2]⟩, ⟨some 56, .call 41 [.t 55], some (49, true), [8, 2, 2]⟩, ⟨some 57, .load true 13 (.t 4), some (49, true), [2]⟩, ⟨some 58, .call 41 [.t 57], some (49, true), [10, 9, 2]⟩, ⟨some 59, .call 42 [.t 56, .t 58], some (49, true), [9, 11, 11, 2]⟩, ⟨some 60, .bin .geq (.t 59) (.c (.int .i64 0)), some (49, true), [12, 2]⟩, ⟨some 61, .pick (.t 49) (.t 60) (.c (.bool false)), none, [2, 13]⟩]) (.cond (.t 61) (.seq (.reg false [⟨some 2, .mv (.c (.int .i64 1)), none, []⟩]) (.ret)) (.skip)))))) (.reg false [⟨some 62, .bin .add (.t 37) (.c (.int .i64 1)), none, []⟩, ⟨some 37, .mv (.t 62), none, []⟩]))))))) (.seq (.seq (.reg false [⟨some 63, .faddr 3 (.t 1), none, []⟩, ⟨some 64, .load false 1 (.t 63), none, []⟩, ⟨some 65, .len false (.t 64), none, []⟩, ⟨some 66, .mv (.c (.int .i64 0)), none, []⟩]) (.block 2 (.loop (.seq (.reg false [⟨some 67, .bin .lss (.t 66) (.t 65), none, []⟩]) (.seq (.cond (.t 67) (.skip) (.exit 2)) (.seq (.block 3 (.seq (.reg false [⟨some 68, .mv (.t 66), none, []⟩, ⟨some 69, .iaddr 3 (.t 64) (.t 66), none, []⟩, ⟨some 70, .load true 3 (.t 69), none, []⟩, ⟨some 7, .alloc 95 [.str [], .str [], .str []], none, []⟩, ⟨some 6, .mv (.t 68), none, []⟩, ⟨none, .store 3 (.t 7) (.t 70), none, []⟩]) (.seq (.reg true [⟨some 71, .faddr 2 (.t 7), none, []⟩, ⟨some 72, .load false 1 (.t 71), none, [0]⟩, ⟨some 73, .call 39 [.t 72], none, [1]⟩, ⟨some 74, .un .not (.t 73), none, [2]⟩, ⟨some 75, .mv (.t 74), none, [3, 2]⟩, ⟨some 76, .faddr 0 (.t 7), some (75, false), [4]⟩, ⟨some 77, .load false 1 (.t 76), some (75, false), [5, 4]⟩, ⟨some 78, .faddr 1 (.t 7), some (75, false), [4]⟩, ⟨some 79, .load false 1 (.t 78), some (75, false), [7, 4]⟩, ⟨some 80, .call 43 [.t 77, .t 79], some (75, false), [6, 8, 4, 4]⟩, ⟨some 81, .un .not (.t 80), some (75, false), [9, 4]⟩, ⟨some 82, .pick (.t 75) (.c (.bool true)) (.t 81), none, [4, 10]⟩, ⟨some 83, .mv (.t 82), none, [11, 9]⟩, ⟨some 84, .mv (.t 6), some (83, false), [12]⟩, ⟨some 85, .bin .gtr (.t 84) (.c (.int .i64 0)), some (83, false), [13, 12]⟩, ⟨some 86, .mv (.t 85), some (83, false), [14, 12, 12]⟩, ⟨some 87, .faddr 3 (.t 1), some (86, true), [15]⟩, ⟨some 88, .load false 1 (.t 87), some (86, true), [16, 15]⟩, ⟨some 89, .mv (.t 6), some (86, true), [15]⟩, ⟨some 90, .bin .sub (.t 89) (.c (.int .i64 1)), some (86, true), [18, 15]⟩, ⟨some 91, .iaddr 3 (.t 88) (.t 90), some (86, true), [17, 19, 15]⟩, ⟨some 92, .faddr 2 (.t 91), some (86, true), [20, 15]⟩, ⟨some 93, .load false 1 (.t 92), some (86, true), [21, 15]⟩, ⟨some 94, .faddr 2 (.t 7), some (86, true), [15]⟩, ⟨some 95, .load false 1 (.t 94), some (86, true), [23, 15]⟩, ⟨some 96, .bin .geq (.t 93) (.t 95), some (86, true), [22, 24, 15]⟩, ⟨some 97, .pick (.t 86) (.t 96) (.c (.bool false)), some (83, false), [15, 25, 12]⟩, ⟨some 98, .pick (.t 83) (.c (.bool true)) (.t 97), none, [12, 26]⟩]) (.cond (.t 98) (.seq (.reg false [⟨some 2, .mv (.c (.int .i64 1)), none, []⟩]) (.ret)) (.skip))))) (.reg false [⟨some 99, .bin .add (.t 66) (.c (.int .i64 1)), none, []⟩, ⟨some 66, .mv (.t 99), none, []⟩]))))))) (.seq (.seq (.reg false [⟨some 100, .faddr 4 (.t 1), none, []⟩, ⟨some 101, .load false 1 (.t 100), none, []⟩, ⟨some 102, .len false (.t 101), none, []⟩, ⟨some 103, .mv (.c (.int .i64 0)), none, []⟩]) (.block 4 (.loop (.seq (.reg false [⟨some 104, .bin .lss (.t 103) (.t 102), none, []⟩]) (.seq (.cond (.t 104) (.skip) (.exit 4)) (.seq (.block 5 (.seq (.reg false [⟨some 105, .mv (.t 103), none, []⟩, ⟨some 106, .iaddr 7 (.t 101) (.t 103), none, []⟩, ⟨some 107, .load true 7 (.t 106), none, []⟩, ⟨some 9, .alloc 98 [.str [], .int .i64 0, .int .i64 0, .str [], .sl 0 .nil [], .sl 0 .nil [], .bool false], none, []⟩, ⟨some 8, .mv (.t 105), none, []⟩, ⟨none, .store 7 (.t 9) (.t 107), none, []⟩]) (.seq (.seq (.reg false [⟨some 108, .load true 7 (.t 9), none, []⟩, ⟨some 109, .call 44 [.t 108], none, []⟩, ⟨some 10, .mv (.t 109), none, []⟩]) (.seq (.reg false [⟨some 110, .mv (.t 10), none, []⟩, ⟨some 111, .bin .neq (.t 110) (.c (.int .i64 0)), none, []⟩]) (.cond (.t 111) (.seq (.reg false [⟨some 112, .mv (.t 10), none, []⟩, ⟨some 2, .mv (.t 112), none, []⟩]) (.ret)) (.skip)))) (.seq (.reg true [⟨some 113, .mv (.t 8), none, []⟩, ⟨some 114, .bin .gtr (.t 113) (.c (.int .i64 0)), none, [0]⟩, ⟨some 115, .mv (.t 114), none, [1]⟩, ⟨some 116, .faddr 4 (.t 1), some (115, true), [2]⟩, ⟨some 117, .load false 1 (.t 116), some (115, true), [3, 2]⟩, ⟨some 118, .mv (.t 8), some (115, true), [2]⟩, ⟨some 119, .bin .sub (.t 118) (.c (.int .i64 1)), some (115, true), [5, 2]⟩, ⟨some 120, .iaddr 7 (.t 117) (.t 119), some (115, true), [4, 6, 2]⟩, ⟨some 121, .faddr 0 (.t 120), some (115, true), [7, 2]⟩, ⟨some 122, .load false 1 (.t 121), some (115, true), [8, 2]⟩, ⟨some 123, .faddr 0 (.t 9), some (115, true), [2]⟩, ⟨some 124, .load false 1 (.t 123), some (115, true), [10, 2]⟩, ⟨some 125, .bin .geq (.t 122) (.t 124), some (115, true), [9, 11, 2]⟩, ⟨some 126, .pick (.t 115) (.t 125) (.c (.bool false)), none, [2, 12]⟩]) (.cond (.t 126) (.seq (.reg false [⟨some 2, .mv (.c (.int .i64 1)), none, []⟩]) (.ret)) (.skip)))))) (.reg false [⟨some 127, .bin .add (.t 103) (.c (.int .i64 1)), none, []⟩, ⟨some 103, .mv (.t 127), none, []⟩]))))))) (.seq (.reg false [⟨some 2, .mv (.c (.int .i64 0)), none, []⟩]) (.ret)))))))), [.t 2]⟩
theorem h_scheck : AX.compFn Tryz.prog 8 = some c_scheck := by kernel_rfl
theorem a_stext (s : List UInt8) (hs : s.length ≤ 2000000) (h : Hp) : ACall Tryz.prog GT 39 [.str s] h fun r h' => r = .bool (s != [] && Str.valid s) ∧ h' = h := by
 refine pcall ?_ rfl (by simp [A.pure, A.data]) h
 refine acall_of mixedT h_stext (by simp [c_stext]) ?_
 dsimp only [c_stext]
 rcases bool_or (s != []) with h1 | h1
 ·(refine AX.go0 h1 ?_)
  (refine AX.gc0 h1 ?_)
  refine (a_valid s hs _).mono ?_
  rintro v h1' ⟨rfl, rfl⟩
  (refine AX.go0 h1 ?_)
  exact ⟨_, le_refl _, by rw [tupA_1, h1]; rfl⟩
 ·(refine AX.go0 h1 ?_)
  exact ⟨_, le_refl _, by rw [tupA_1, h1]; rfl⟩
theorem a_scheck0 (s : List UInt8) (n : Int) (hs : s.length ≤ 1000000) (hv : (s != [] && Str.valid s) = true) (h0 : 0 ≤ n) (h1 : n ≤ 9007199254740992) (h : Hp) : ACall Tryz.prog GT 8 [.agg [.str s, .int .i64 n, .sl 13 .no [], .sl 3 .no [], .sl 7 .no []]] h fun r h' => r = .int .i64 0 ∧ h' = h := by
 refine pcall ?_ rfl (by simp [A.pure, A.data]) h
 refine acall_of mixedT h_scheck (by simp [c_scheck]) ?_
 dsimp only [c_scheck]
 (refine AX.go0 True.intro ?_)
 (refine AX.gc0 True.intro ?_)
 refine (a_stext s (by omega) _).mono ?_
 rintro v h1' ⟨rfl, rfl⟩
 rw [hv]
 have e1 : ¬ n < 0 := by omega
 have e2 : ¬ n > 9007199254740992 := by omega
 have hz : ¬ (0 : Int) < ((0 : Nat) : Int) := by decide
 have hg : ¬ ((0 : Nat) : Int) > ((0 : Nat) : Int) := by decide
 have hg2 : ¬ ((0 : Nat) : Int) > 512 := by decide
 (refine AX.go0 (And.intro e1 (And.intro e2 (And.intro hg hg2))) ?_)
 refine go_once ?_
 (refine AX.go0 hz ?_)
 refine go_once ?_
 (refine AX.go0 hz ?_)
 refine go_once ?_
 (refine AX.go0 hz ?_)
 exact ⟨_, le_refl _, rfl⟩
end AX
end Go.Proofs.YtnjkemakcejceaaGreatDoor

namespace Go.Proofs.YtnjkemakcejceaaGreatDoor
open Go.RowKit
set_option maxHeartbeats 4000000
namespace AX
def c_encode : AX.AFn := ⟨29, .seq (.reg false [⟨some 2, .box 26 (.t 0), none, []⟩, ⟨some 4, .mv (.c (.str [])), none, []⟩, ⟨some 5, .mv (.c (.int .i64 0)), none, []⟩]) (.seq (.seq (.reg false [⟨some 8, .load true 5 (.t 2), none, []⟩, ⟨some 9, .call 8 [.t 8], none, []⟩, ⟨some 6, .mv (.t 9), none, []⟩]) (.seq (.reg false [⟨some 10, .mv (.t 6), none, []⟩, ⟨some 11, .bin .neq (.t 10) (.c (.int .i64 0)), none, []⟩]) (.cond (.t 11) (.seq (.reg false [⟨some 12, .mv (.t 6), none, []⟩, ⟨some 4, .mv (.c (.str [])), none, []⟩, ⟨some 5, .mv (.t 12), none, []⟩]) (.ret)) (.skip)))) (.seq (.reg false [⟨some 13, .mv (.t 1), none, []⟩, ⟨some 14, .build [.nilp, .sl 0 .nil [], .int .i64 0] [(2, 1, .t 13)], none, []⟩, ⟨some 15, .box 142 (.t 14), none, []⟩, ⟨some 7, .mv (.t 15), none, []⟩]) (.seq (.reg false [⟨some 16, .mv (.t 7), none, []⟩, ⟨some 17, .load true 5 (.t 2), none, []⟩, ⟨some 18, .call 86 [.t 16, .t 17], none, []⟩]) (.seq (.seq (.reg false [⟨some 19, .mv (.t 7), none, []⟩, ⟨some 20, .nilck (.t 19), none, []⟩, ⟨some 21, .faddr 0 (.t 20), none, []⟩, ⟨some 22, .call 87 [.t 21], none, []⟩, ⟨some 23, .bin .gtr (.t 22) (.c (.int .i64 1048572)), none, []⟩]) (.cond (.t 23) (.seq (.reg false [⟨some 4, .mv (.c (.str [])), none, []⟩, ⟨some 5, .mv (.c (.int .i64 3)), none, []⟩]) (.ret)) (.skip))) (.seq (.reg false [⟨some 24, .mv (.t 7), none, []⟩, ⟨some 25, .nilck (.t 24), none, []⟩, ⟨some 26, .faddr 0 (.t 25), none, []⟩, ⟨some 27, .call 85 [.t 26], none, []⟩, ⟨some 28, .call 88 [.t 27], none, []⟩, ⟨some 4, .mv (.t 28), none, []⟩, ⟨some 5, .mv (.c (.int .i64 0)), none, []⟩]) (.ret)))))), [.t 4, .t 5]⟩
theorem h_encode : AX.compFn Tryz.prog 47 = some c_encode := by kernel_rfl
def c_Encode : AX.AFn := ⟨8, .seq (.reg false [⟨some 1, .box 26 (.t 0), none, []⟩, ⟨some 2, .mv (.c (.str [])), none, []⟩, ⟨some 3, .mv (.c (.int .i64 0)), none, []⟩]) (.seq (.reg false [⟨some 4, .load true 5 (.t 1), none, []⟩, ⟨some 5, .call 47 [.t 4, .c (.int .i64 2)], none, []⟩, ⟨some 6, .extract (.t 5) 0, none, []⟩, ⟨some 7, .extract (.t 5) 1, none, []⟩, ⟨some 2, .mv (.t 6), none, []⟩, ⟨some 3, .mv (.t 7), none, []⟩]) (.ret)), [.t 2, .t 3]⟩
theorem h_Encode : AX.compFn Tryz.prog 10 = some c_Encode := by kernel_rfl
def c_EncodeOld : AX.AFn := ⟨8, .seq (.reg false [⟨some 1, .box 26 (.t 0), none, []⟩, ⟨some 2, .mv (.c (.str [])), none, []⟩, ⟨some 3, .mv (.c (.int .i64 0)), none, []⟩]) (.seq (.reg false [⟨some 4, .load true 5 (.t 1), none, []⟩, ⟨some 5, .call 47 [.t 4, .c (.int .i64 1)], none, []⟩, ⟨some 6, .extract (.t 5) 0, none, []⟩, ⟨some 7, .extract (.t 5) 1, none, []⟩, ⟨some 2, .mv (.t 6), none, []⟩, ⟨some 3, .mv (.t 7), none, []⟩]) (.ret)), [.t 2, .t 3]⟩
theorem h_EncodeOld : AX.compFn Tryz.prog 11 = some c_EncodeOld := by kernel_rfl
def c_Decode : AX.AFn := ⟨64, .seq (.reg false [⟨some 2, .alloc 26 [.str [], .int .i64 0, .sl 0 .nil [], .sl 0 .nil [], .sl 0 .nil []], none, []⟩, ⟨some 3, .mv (.c (.int .i64 0)), none, []⟩]) (.seq (.seq (.reg false [⟨some 9, .mv (.t 0), none, []⟩, ⟨some 10, .len true (.t 9), none, []⟩, ⟨some 11, .bin .gtr (.t 10) (.c (.int .i64 1048576)), none, []⟩]) (.cond (.t 11) (.seq (.reg false [⟨some 12, .build [.str [], .int .i64 0, .sl 0 .nil [], .sl 0 .nil [], .sl 0 .nil []] [], none, []⟩, ⟨none, .store 5 (.t 2) (.t 12), none, []⟩, ⟨some 3, .mv (.c (.int .i64 3)), none, []⟩]) (.ret)) (.skip))) (.seq (.seq (.reg false [⟨some 13, .mv (.t 0), none, []⟩, ⟨some 14, .call 48 [.t 13, .c (.str [80, 86, 83, 84])], none, []⟩, ⟨some 15, .un .not (.t 14), none, []⟩]) (.cond (.t 15) (.seq (.reg false [⟨some 16, .build [.str [], .int .i64 0, .sl 0 .nil [], .sl 0 .nil [], .sl 0 .nil []] [], none, []⟩, ⟨none, .store 5 (.t 2) (.t 16), none, []⟩, ⟨some 3, .mv (.c (.int .i64 2)), none, []⟩]) (.ret)) (.skip))) (.seq (.reg false [⟨some 18, .mv (.t 0), none, []⟩, ⟨some 19, .call 49 [.t 18], none, []⟩, ⟨some 17, .mv (.t 19), none, []⟩, ⟨some 20, .extract (.t 17) 0, none, []⟩, ⟨some 21, .extract (.t 17) 1, none, []⟩, ⟨some 4, .mv (.t 20), none, []⟩, ⟨some 5, .mv (.t 21), none, []⟩]) (.seq (.seq (.reg false [⟨some 22, .mv (.t 5), none, []⟩, ⟨some 23, .bin .neq (.t 22) (.c (.int .i64 0)), none, []⟩]) (.cond (.t 23) (.seq (.reg false [⟨some 24, .build [.str [], .int .i64 0, .sl 0 .nil [], .sl 0 .nil [], .sl 0 .nil []] [], none, []⟩, ⟨none, .store 5 (.t 2) (.t 24), none, []⟩, ⟨some 3, .mv (.c (.int .i64 20)), none, []⟩]) (.ret)) (.skip))) (.seq (.reg false [⟨some 26, .mv (.t 4), none, []⟩, ⟨some 27, .call 45 [.t 26], none, []⟩, ⟨some 25, .mv (.t 27), none, []⟩, ⟨some 28, .extract (.t 25) 0, none, []⟩, ⟨some 29, .extract (.t 25) 1, none, []⟩, ⟨some 6, .mv (.t 28), none, []⟩, ⟨some 5, .mv (.t 29), none, []⟩]) (.seq (.seq (.reg false [⟨some 30, .mv (.t 5), none, []⟩, ⟨some 31, .bin .neq (.t 30) (.c (.int .i64 0)), none, []⟩]) (.cond (.t 31) (.seq (.reg false [⟨some 32, .build [.str [], .int .i64 0, .sl 0 .nil [], .sl 0 .nil [], .sl 0 .nil []] [], none, []⟩, ⟨some 33, .mv (.t 5), none, []⟩, ⟨none, .store 5 (.t 2) (.t 32), none, []⟩, ⟨some 3, .mv (.t 33), none, []⟩]) (.ret)) (.skip))) (.seq (.reg false [⟨some 34, .mv (.t 4), none, []⟩, ⟨some 35, .ssl (.t 34) (some (.c (.int .i64 4))) none, none, []⟩, ⟨some 36, .call 50 [.t 35], none, []⟩, ⟨some 37, .mv (.t 6), none, []⟩, ⟨some 38, .build [.nilp, .int .i64 0, .bool false] [(0, 1, .t 36), (1, 1, .t 37)], none, []⟩, ⟨some 39, .box 109 (.t 38), none, []⟩, ⟨some 7, .mv (.t 39), none, []⟩]) (.seq (.reg false [⟨some 40, .mv (.t 7), none, []⟩, ⟨some 41, .nilck (.t 40), none, []⟩, ⟨some 42, .faddr 0 (.t 41), none, []⟩, ⟨some 43, .load false 1 (.t 42), none, []⟩, ⟨some 44, .call 51 [.t 43], none, []⟩]) (.seq (.reg false [⟨some 45, .mv (.t 7), none, []⟩, ⟨some 46, .call 52 [.t 45], none, []⟩, ⟨some 8, .alloc 26 [.str [], .int .i64 0, .sl 0 .nil [], .sl 0 .nil [], .sl 0 .nil []], none, []⟩, ⟨none, .store 5 (.t 8) (.t 46), none, []⟩]) (.seq (.seq (.reg false [⟨some 47, .mv (.t 7), none, []⟩, ⟨some 48, .call 53 [.t 47], none, []⟩, ⟨some 49, .mv (.t 48), none, []⟩, ⟨some 50, .mv (.t 7), some (49, false), []⟩, ⟨some 51, .nilck (.t 50), some (49, false), []⟩, ⟨some 52, .faddr 0 (.t 51), some (49, false), []⟩, ⟨some 53, .load false 1 (.t 52), some (49, false), []⟩, ⟨some 54, .call 54 [.t 53], some (49, false), []⟩, ⟨some 55, .bin .gtr (.t 54) (.c (.int .i64 0)), some (49, false), []⟩, ⟨some 56, .pick (.t 49) (.c (.bool true)) (.t 55), none, []⟩, ⟨some 57, .mv (.t 56), none, []⟩, ⟨some 58, .load true 5 (.t 8), some (57, false), []⟩, ⟨some 59, .call 8 [.t 58], some (57, false), []⟩, ⟨some 60, .bin .neq (.t 59) (.c (.int .i64 0)), some (57, false), []⟩, ⟨some 61, .pick (.t 57) (.c (.bool true)) (.t 60), none, []⟩]) (.cond (.t 61) (.seq (.reg false [⟨some 62, .build [.str [], .int .i64 0, .sl 0 .nil [], .sl 0 .nil [], .sl 0 .nil []] [], none, []⟩, ⟨none, .store 5 (.t 2) (.t 62), none, []⟩, ⟨some 3, .mv (.c (.int .i64 2)), none, []⟩]) (.ret)) (.skip))) (.seq (.reg false [⟨some 63, .load true 5 (.t 8), none, []⟩, ⟨none, .store 5 (.t 2) (.t 63), none, []⟩, ⟨some 3, .mv (.c (.int .i64 0)), none, []⟩]) (.ret)))))))))))), [.c 2 true 5, .t 3]⟩
theorem h_Decode : AX.compFn Tryz.prog 12 = some c_Decode := by kernel_rfl
def c_awake : AX.AFn := ⟨91, .seq (.reg false [⟨some 0, .mv (.c (.bool false)), none, []⟩]) (.seq (.reg false [⟨some 14, .build [.str [], .int .i64 0, .sl 0 .nil [], .sl 0 .nil [], .sl 0 .nil []] [(0, 1, .c (.str [97])), (1, 1, .c (.int .i64 1))], none, []⟩, ⟨some 1, .alloc 26 [.str [], .int .i64 0, .sl 0 .nil [], .sl 0 .nil [], .sl 0 .nil []], none, []⟩, ⟨none, .store 5 (.t 1) (.t 14), none, []⟩]) (.seq (.reg false [⟨some 16, .load true 5 (.t 1), none, []⟩, ⟨some 17, .call 10 [.t 16], none, []⟩, ⟨some 15, .mv (.t 17), none, []⟩, ⟨some 18, .extract (.t 15) 0, none, []⟩, ⟨some 19, .extract (.t 15) 1, none, []⟩, ⟨some 2, .mv (.t 18), none, []⟩, ⟨some 3, .mv (.t 19), none, []⟩]) (.seq (.reg false [⟨some 21, .load true 5 (.t 1), none, []⟩, ⟨some 22, .call 11 [.t 21], none, []⟩, ⟨some 20, .mv (.t 22), none, []⟩, ⟨some 23, .extract (.t 20) 0, none, []⟩, ⟨some 24, .extract (.t 20) 1, none, []⟩, ⟨some 4, .mv (.t 23), none, []⟩, ⟨some 5, .mv (.t 24), none, []⟩]) (.seq (.reg false [⟨some 26, .call 12 [.c (.str [])], none, []⟩, ⟨some 25, .mv (.t 26), none, []⟩, ⟨some 27, .extract (.t 25) 0, none, []⟩, ⟨some 28, .extract (.t 25) 1, none, []⟩, ⟨some 6, .alloc 26 [.str [], .int .i64 0, .sl 0 .nil [], .sl 0 .nil [], .sl 0 .nil []], none, []⟩, ⟨none, .store 5 (.t 6) (.t 27), none, []⟩, ⟨some 7, .mv (.t 28), none, []⟩]) (.seq (.reg false [⟨some 30, .call 12 [.c (.str [80, 86, 83, 84])], none, []⟩, ⟨some 29, .mv (.t 30), none, []⟩, ⟨some 31, .extract (.t 29) 0, none, []⟩, ⟨some 32, .extract (.t 29) 1, none, []⟩, ⟨some 8, .alloc 26 [.str [], .int .i64 0, .sl 0 .nil [], .sl 0 .nil [], .sl 0 .nil []], none, []⟩, ⟨none, .store 5 (.t 8) (.t 31), none, []⟩, ⟨some 9, .mv (.t 32), none, []⟩]) (.seq (.reg false [⟨some 34, .mv (.t 2), none, []⟩, ⟨some 35, .call 45 [.t 34], none, []⟩, ⟨some 33, .mv (.t 35), none, []⟩, ⟨some 36, .extract (.t 33) 0, none, []⟩, ⟨some 37, .extract (.t 33) 1, none, []⟩, ⟨some 10, .mv (.t 36), none, []⟩, ⟨some 11, .mv (.t 37), none, []⟩]) (.seq (.reg false [⟨some 39, .call 45 [.c (.str [80, 86, 83, 84, 6])], none, []⟩, ⟨some 38, .mv (.t 39), none, []⟩, ⟨some 40, .extract (.t 38) 0, none, []⟩, ⟨some 41, .extract (.t 38) 1, none, []⟩, ⟨some 12, .mv (.t 40), none, []⟩, ⟨some 13, .mv (.t 41), none, []⟩]) (.seq (.seq (.reg false [⟨some 42, .mv (.t 3), none, []⟩, ⟨some 43, .bin .neq (.t 42) (.c (.int .i64 0)), none, []⟩, ⟨some 44, .mv (.t 43), none, []⟩, ⟨some 45, .mv (.t 5), some (44, false), []⟩, ⟨some 46, .bin .neq (.t 45) (.c (.int .i64 0)), some (44, false), []⟩, ⟨some 47, .pick (.t 44) (.c (.bool true)) (.t 46), none, []⟩, ⟨some 48, .mv (.t 47), none, []⟩, ⟨some 49, .mv (.t 2), some (48, false), []⟩, ⟨some 50, .len true (.t 49), some (48, false), []⟩, ⟨some 51, .bin .neq (.t 50) (.c (.int .i64 15)), some (48, false), []⟩, ⟨some 52, .pick (.t 48) (.c (.bool true)) (.t 51), none, []⟩, ⟨some 53, .mv (.t 52), none, []⟩, ⟨some 54, .mv (.t 4), some (53, false), []⟩, ⟨some 55, .len true (.t 54), some (53, false), []⟩, ⟨some 56, .bin .neq (.t 55) (.c (.int .i64 14)), some (53, false), []⟩, ⟨some 57, .pick (.t 53) (.c (.bool true)) (.t 56), none, []⟩]) (.cond (.t 57) (.seq (.reg false [⟨some 0, .mv (.c (.bool false)), none, []⟩]) (.ret)) (.skip))) (.seq (.reg false [⟨some 58, .mv (.t 2), none, []⟩, ⟨some 59, .ssl (.t 58) none (some (.c (.int .i64 11))), none, []⟩, ⟨some 60, .bin .eql (.t 59) (.c (.str [80, 86, 83, 84, 4, 2, 97, 2, 0, 0, 0])), none, []⟩, ⟨some 61, .mv (.t 60), none, []⟩, ⟨some 62, .mv (.t 4), some (61, true), []⟩, ⟨some 63, .sidx (.t 62) (.c (.int .i64 4)), some (61, true), []⟩, ⟨some 64, .bin .eql (.t 63) (.c (.int .u8 2)), some (61, true), []⟩, ⟨some 65, .pick (.t 61) (.t 64) (.c (.bool false)), none, []⟩, ⟨some 66, .mv (.t 65), none, []⟩, ⟨some 67, .mv (.t 7), some (66, true), []⟩, ⟨some 68, .bin .eql (.t 67) (.c (.int .i64 2)), some (66, true), []⟩, ⟨some 69, .pick (.t 66) (.t 68) (.c (.bool false)), none, []⟩, ⟨some 70, .mv (.t 69), none, []⟩, ⟨some 71, .mv (.t 9), some (70, true), []⟩, ⟨some 72, .bin .eql (.t 71) (.c (.int .i64 20)), some (70, true), []⟩, ⟨some 73, .pick (.t 70) (.t 72) (.c (.bool false)), none, []⟩, ⟨some 74, .mv (.t 73), none, []⟩, ⟨some 75, .mv (.t 10), some (74, true), []⟩, ⟨some 76, .bin .eql (.t 75) (.c (.int .i64 2)), some (74, true), []⟩, ⟨some 77, .pick (.t 74) (.t 76) (.c (.bool false)), none, []⟩, ⟨some 78, .mv (.t 77), none, []⟩, ⟨some 79, .mv (.t 11), some (78, true), []⟩, ⟨some 80, .bin .eql (.t 79) (.c (.int .i64 0)), some (78, true), []⟩, ⟨some 81, .pick (.t 78) (.t 80) (.c (.bool false)), none, []⟩, ⟨some 82, .mv (.t 81), none, []⟩, ⟨some 83, .mv (.t 13), some (82, true), []⟩, ⟨some 84, .bin .eql (.t 83) (.c (.int .i64 21)), some (82, true), []⟩, ⟨some 85, .pick (.t 82) (.t 84) (.c (.bool false)), none, []⟩, ⟨some 86, .mv (.t 85), none, []⟩, ⟨some 87, .build [.int .i64 0, .int .i64 0, .str [], .sl 0 .nil [], .sl 0 .nil []] [(0, 1, .c (.int .i64 1)), (1, 1, .c (.int .i64 1))], some (86, true), []⟩, ⟨some 88, .call 46 [.c (.str []), .t 87], some (86, true), []⟩, ⟨some 89, .bin .eql (.t 88) (.c (.str [2, 2])), some (86, true), []⟩, ⟨some 90, .pick (.t 86) (.t 89) (.c (.bool false)), none, []⟩, ⟨some 0, .mv (.t 90), none, []⟩]) (.ret)))))))))), [.t 0]⟩
theorem h_awake : AX.compFn Tryz.prog 9 = some c_awake := by kernel_rfl
theorem a_csAppend (s : List UInt8) (hs : s.length ≤ 1000000000) (h : Hp) : ACall Tryz.prog GT 88 [.str s] h fun v h' => v = .str (Crc.app s) ∧ h' = h :=
 acall_imp (args1 r_str) (fun w hg => append_any ⟨s.toArray⟩ w (by rw [size_mk]; exact hs)) (fun C => rep_str.2 rfl) h
theorem a_csVerify (s : List UInt8) (hs : s.length ≤ 1000000000) (h : Hp) : ACall Tryz.prog GT 49 [.str s] h fun v h' => v = .tup [.str (Crc.ver s).1, .int .i64 (Crc.ver s).2] ∧ h' = h :=
 acall_imp (args1 r_str) (fun w hg => verify_any ⟨s.toArray⟩ w (by rw [size_mk]; exact hs)) (fun C => rep_tup.2 ⟨_, rfl, repL_cons.2 ⟨_, _, rfl, rep_str.2 rfl, repL_cons.2 ⟨_, _, rfl, rep_int.2 rfl, repL_nil.2 rfl⟩⟩⟩) h
theorem state0_len (ver : Int) (s : List UInt8) (n : Int) : 4 ≤ (state0 ver s n).length ∧ (state0 ver s n).length ≤ s.length + 64 := by
 have l1 := num_len ver
 have l2 := num_len s.length
 have l3 := num_len n
 have l4 := num_len 0
 have l5 : (Wire.strE s).length = (Wire.num s.length).length + s.length := by unfold Wire.strE; rw [List.length_append]
 have l6 : magic.length = 4 := rfl
 unfold state0
 split <;> simp only [List.length_append, List.length_nil, l5, l6] <;> omega
theorem a_encode0 (ver : Int) (s : List UInt8) (n : Int) (hs : s.length ≤ 100000) (hv : (s != [] && Str.valid s) = true) (h0 : 0 ≤ n) (h1 : n ≤ 9007199254740992) (hver : ver = 1 ∨ ver = 2) (h : Hp) :
  ACall Tryz.prog GT 47 [.agg [.str s, .int .i64 n, .sl 0 .nil [], .sl 0 .nil [], .sl 0 .nil []], .int .i64 ver] h fun r h' => r = .tup [.str (Crc.app (state0 ver s n)), .int .i64 0] ∧ h' = h := by
 refine pcall ?_ rfl (by simp [A.pure, A.data]) h
 refine acall_of mixedT h_encode (by simp [c_encode]) ?_
 dsimp only [c_encode]
 have hl := state0_len ver s n
 have hg : ¬ ((state0 ver s n).length : Int) > 1048572 := by omega
 have hne : state0 ver s n ≠ [] := by intro e; rw [e] at hl; simp at hl
 (refine AX.go0 True.intro ?_)
 (refine AX.gc0 True.intro ?_)
 refine (a_scheck0 s n (by omega) hv h0 h1 _).args ?_ |>.mono ?_
 ·exact ⟨⟨rfl, rfl, ⟨rfl, .inr rfl, .inl rfl⟩, ⟨rfl, .inr rfl, .inl rfl⟩, ⟨rfl, .inr rfl, .inl rfl⟩, trivial⟩, trivial⟩
 rintro v h' ⟨rfl, rfl⟩
 (refine AX.go0 True.intro ?_)
 (refine AX.gc0 True.intro ?_)
 refine (a_wstate0 (i := 1) (ver := ver) (.inr ⟨rfl, rfl⟩) s n (by omega) (by omega) (by omega) hver).mono ?_
 intro v h2 p2
 (refine AX.go0 True.intro ?_)
 (refine AX.gc0 True.intro ?_)
 refine (a_wlen p2.1).mono ?_
 rintro v h' ⟨rfl, rfl⟩
 (refine AX.go0 hg ?_)
 (refine AX.gc0 True.intro ?_)
 refine (a_wstring p2.1 hne).mono ?_
 rintro v h' ⟨rfl, rfl⟩
 (refine AX.go0 True.intro ?_)
 (refine AX.gc0 True.intro ?_)
 refine (a_csAppend _ (by omega) _).mono ?_
 rintro v h' ⟨rfl, rfl⟩
 (refine AX.go0 True.intro ?_)
 exact ⟨_, le_refl _, rfl⟩
theorem a_Encode0 (s : List UInt8) (n : Int) (hs : s.length ≤ 100000) (hv : (s != [] && Str.valid s) = true) (h0 : 0 ≤ n) (h1 : n ≤ 9007199254740992) (h : Hp) :
  ACall Tryz.prog GT 10 [.agg [.str s, .int .i64 n, .sl 0 .nil [], .sl 0 .nil [], .sl 0 .nil []]] h fun r h' => r = .tup [.str (Crc.app (state0 2 s n)), .int .i64 0] ∧ h' = h := by
 refine pcall ?_ rfl (by simp [A.pure, A.data]) h
 refine acall_of mixedT h_Encode (by simp [c_Encode]) ?_
 dsimp only [c_Encode]
 (refine AX.go0 True.intro ?_)
 (refine AX.gc0 True.intro ?_)
 refine (a_encode0 2 s n hs hv h0 h1 (.inr rfl) _).mono ?_
 rintro v h' ⟨rfl, rfl⟩
 (refine AX.go0 True.intro ?_)
 exact ⟨_, le_refl _, rfl⟩
theorem a_EncodeOld0 (s : List UInt8) (n : Int) (hs : s.length ≤ 100000) (hv : (s != [] && Str.valid s) = true) (h0 : 0 ≤ n) (h1 : n ≤ 9007199254740992) (h : Hp) :
  ACall Tryz.prog GT 11 [.agg [.str s, .int .i64 n, .sl 0 .nil [], .sl 0 .nil [], .sl 0 .nil []]] h fun r h' => r = .tup [.str (Crc.app (state0 1 s n)), .int .i64 0] ∧ h' = h := by
 refine pcall ?_ rfl (by simp [A.pure, A.data]) h
 refine acall_of mixedT h_EncodeOld (by simp [c_EncodeOld]) ?_
 dsimp only [c_EncodeOld]
 (refine AX.go0 True.intro ?_)
 (refine AX.gc0 True.intro ?_)
 refine (a_encode0 1 s n hs hv h0 h1 (.inl rfl) _).mono ?_
 rintro v h' ⟨rfl, rfl⟩
 (refine AX.go0 True.intro ?_)
 exact ⟨_, le_refl _, rfl⟩
def stE : A := .agg [.str [], .int .i64 0, .sl 0 .nil [], .sl 0 .nil [], .sl 0 .nil []]
theorem a_Decode_e (h : Hp) : ACall Tryz.prog GT 12 [.str []] h fun r h' => r = .tup [stE, .int .i64 2] ∧ h' = h := by
 refine pcall ?_ rfl (by simp [A.pure, A.data]) h
 refine acall_of mixedT h_Decode (by simp [c_Decode]) ?_
 dsimp only [c_Decode]
 have hg : ¬ ((0 : Nat) : Int) > 1048576 := by decide
 (refine AX.go0 hg ?_)
 (refine AX.gc0 True.intro ?_)
 refine (a_hasPrefix [] magic _).mono ?_
 rintro v h' ⟨rfl, rfl⟩
 (refine AX.go0 (show magic = [80, 86, 83, 84] from rfl) ?_)
 exact ⟨_, le_refl _, rfl⟩
theorem a_Decode_m (h : Hp) : ACall Tryz.prog GT 12 [.str [80, 86, 83, 84]] h fun r h' => r = .tup [stE, .int .i64 20] ∧ h' = h := by
 refine pcall ?_ rfl (by simp [A.pure, A.data]) h
 refine acall_of mixedT h_Decode (by simp [c_Decode]) ?_
 dsimp only [c_Decode]
 have hg : ¬ ((4 : Nat) : Int) > 1048576 := by decide
 have hb : (decide (magic.length ≤ [80, 86, 83, 84].length) && List.take magic.length [80, 86, 83, 84] == magic) = true := by decide
 have hv : Crc.ver [80, 86, 83, 84] = ([], 20) := by decide +kernel
 (refine AX.go0 hg ?_)
 (refine AX.gc0 True.intro ?_)
 refine (a_hasPrefix [80, 86, 83, 84] magic _).mono ?_
 rintro v h' ⟨hv', rfl⟩
 obtain rfl : v = .bool true := hv'.trans (congrArg A.bool (by decide))
 (refine AX.go0 True.intro ?_)
 (refine AX.gc0 True.intro ?_)
 refine (a_csVerify [80, 86, 83, 84] (by decide) _).mono ?_
 rintro v h' ⟨rfl, rfl⟩
 rw [hv]
 (refine AX.go0 True.intro ?_)
 exact ⟨_, le_refl _, rfl⟩
theorem awake32 : Awake := by
 intro h
 refine pcall ?_ rfl (by simp [A.pure, A.data]) h
 refine acall_of mixedT h_awake (by simp [c_awake]) ?_
 dsimp only [c_awake]
 have e2 : Crc.app (state0 2 [97] 1) = [80, 86, 83, 84, 4, 2, 97, 2, 0, 0, 0] ++ (Crc.app (state0 2 [97] 1)).drop 11 := by decide +kernel
 have l2 : (Crc.app (state0 2 [97] 1)).length = 15 := by decide +kernel
 obtain ⟨x2, hx2⟩ : ∃ x, Crc.app (state0 2 [97] 1) = x := ⟨_, rfl⟩
 have v2 : versionS (Crc.app (state0 2 [97] 1)) = (2, 0) := by decide +kernel
 have t2 : (Crc.app (state0 2 [97] 1)).take 11 = [80, 86, 83, 84, 4, 2, 97, 2, 0, 0, 0] := by decide +kernel
 have l1 : (Crc.app (state0 1 [97] 1)).length = 14 := by decide +kernel
 have g1 : ((Crc.app (state0 1 [97] 1)).getD 4 0).toNat = 2 := by decide +kernel
 have v3 : versionS [80, 86, 83, 84, 6] = (0, 21) := by decide +kernel
 have hva : ([97] != [] && Str.valid [97]) = true := by decide +kernel
 obtain ⟨x1, hx1⟩ : ∃ x, Crc.app (state0 1 [97] 1) = x := ⟨_, rfl⟩
 rw [hx2] at v2 t2 l2
 rw [hx1] at l1 g1
 (refine AX.go0 True.intro ?_)
 (refine AX.gc0 True.intro ?_)
 refine (a_Encode0 [97] 1 (by decide) hva (by decide) (by decide) _).mono ?_
 rintro v h' ⟨rfl, rfl⟩
 rw [hx2]
 (refine AX.go0 True.intro ?_)
 (refine AX.gc0 True.intro ?_)
 refine (a_EncodeOld0 [97] 1 (by decide) hva (by decide) (by decide) _).mono ?_
 rintro v h' ⟨rfl, rfl⟩
 rw [hx1]
 (refine AX.go0 True.intro ?_)
 (refine AX.gc0 True.intro ?_)
 refine (a_Decode_e _).mono ?_
 rintro v h' ⟨rfl, rfl⟩
 unfold stE
 (refine AX.go0 True.intro ?_)
 (refine AX.gc0 True.intro ?_)
 refine (a_Decode_m _).mono ?_
 rintro v h' ⟨rfl, rfl⟩
 unfold stE
 (refine AX.go0 True.intro ?_)
 (refine AX.gc0 True.intro ?_)
 refine (a_version x2 (by omega) _).mono ?_
 rintro v h' ⟨rfl, rfl⟩
 rw [v2]
 (refine AX.go0 True.intro ?_)
 (refine AX.gc0 True.intro ?_)
 refine (a_version [80, 86, 83, 84, 6] (by decide) _).mono ?_
 rintro v h' ⟨rfl, rfl⟩
 rw [v3]
 have m2 : ((x2.length : Int) != 15) = false := by rw [l2]; decide
 have m1 : ((x1.length : Int) != 14) = false := by rw [l1]; decide
 have b1 : (x2.take 11 == [80, 86, 83, 84, 4, 2, 97, 2, 0, 0, 0]) = true := by rw [t2]; decide
 have b2 : (((x1.getD 4 0).toNat : Int) == 2) = true := by rw [g1]; decide
 have c1 : (0 : Int) ≤ 11 := by decide
 have c2 : (11 : Int) ≤ (x2.length : Int) := by rw [l2]; decide
 have c3 : (0 : Int) ≤ 4 := by decide
 have c4 : (4 : Int) < (x1.length : Int) := by rw [l1]; decide
 have e11 : (11 : Int).toNat = 11 := rfl
 have e4 : (4 : Int).toNat = 4 := rfl
 (refine AX.go0 (And.intro m1 (And.intro m2 (And.intro b1 (And.intro b2 (And.intro c1 (And.intro c2 (And.intro c3 (And.intro c4 (And.intro e11 e4))))))))) ?_)
 (refine AX.gc0 True.intro ?_)
 refine ((a_AppendValue [] (by simp) (.mk 1 1 [] [] []) ⟨1, 0, by decide +kernel⟩ (by decide +kernel) (by unfold V.lens V.lensS; simp) _).args ?_).mono ?_
 ·exact ⟨rfl, ⟨rfl, rfl, rfl, ⟨rfl, .inr rfl, .inl rfl⟩, ⟨rfl, .inr rfl, .inl rfl⟩, trivial⟩, trivial⟩
 rintro v h' ⟨rfl, rfl⟩
 have ev : [] ++ Val.enc (.mk 1 1 [] [] []) = [2, 2] := by decide +kernel
 (refine AX.go0 ev ?_)
 exact ⟨_, le_refl _, rfl⟩
end AX
end Go.Proofs.YtnjkemakcejceaaGreatDoor

namespace Go.Proofs.YtnjkemakcejceaaGreatDoor
open Go.RowKit
set_option maxHeartbeats 4000000
namespace Sf
def zero : St := ⟨[], 0, [], [], []⟩
def encode (ver : Int) (st : St) : List UInt8 × Int :=
 if checkZ st ≠ 0 then ([], checkZ st) else if 1048572 < (stE ver st).length then ([], 3) else (Crc.app (stE ver st), 0)
def decode (s : List UInt8) : St × Int :=
 if 1048576 < s.length then (zero, 3)
 else if AX.preB s = false then (zero, 2)
 else if (Crc.ver s).2 ≠ 0 then (zero, 20)
 else if (AX.versionS (Crc.ver s).1).2 ≠ 0 then (zero, (AX.versionS (Crc.ver s).1).2)
 else
  let r := stateS (AX.versionS (Crc.ver s).1).1 ⟨(Wire.numR ⟨(Crc.ver s).1.drop 4, 0⟩).1, false⟩
  if r.1.fails || decide (0 < r.1.r.rest.length) || checkZ r.2 != 0 then (zero, 2) else (r.2, 0)
end Sf
namespace AX
def SCheck (st : Sf.St) : Prop := ∀ h, ACall Tryz.prog GT 8 [st.A] h fun r h' => r = .int .i64 (Sf.checkZ st) ∧ h' = h
theorem w_statei {ver : Int} (hver : ver = 1 ∨ ver = 2) (st : Sf.St) (ok : Sf.StOk st) (hlen : (Sf.stE ver st).length + 20 ≤ 1000000000) {h : Hp} {i : Nat} (hb : h.b[i]? = some (.cells 142 [.nilp, .sl 0 .nil [], .int .i64 ver])) :
  ACall Tryz.prog GT 86 [.ptr i 0, st.A] h fun u h' => u = .tup [] ∧ h' = ⟨h.b.set i (wtr ver (Sf.stE ver st)), h.t⟩ := by
 refine (ACall.lift1 (w_state hver st ok hlen) rfl (by intros; rfl) ?_ hb).mono ?_
 ·rintro u b' ⟨rfl, rfl⟩
  exact ⟨rfl, wtr_loc _ _⟩
 ·rintro u h' ⟨b', ⟨rfl, rfl⟩, rfl⟩
  exact ⟨rfl, rfl⟩
theorem stE_ne (ver : Int) (st : Sf.St) : Sf.stE ver st ≠ [] := by
 unfold Sf.stE Sf.magic
 simp
theorem a_encode {ver : Int} (hver : ver = 1 ∨ ver = 2) (st : Sf.St) (hck : SCheck st) (hok : Sf.checkZ st = 0 → Sf.StOk st ∧ (Sf.stE ver st).length + 20 ≤ 1000000000) (h : Hp) :
  ACall Tryz.prog GT 47 [st.A, .int .i64 ver] h fun r h' => r = .tup [.str (Sf.encode ver st).1, .int .i64 (Sf.encode ver st).2] ∧ h' = h := by
 refine pcall ?_ rfl (by simp [A.pure, A.data, Sf.St.A]) h
 refine acall_of mixedT h_encode (by simp [c_encode]) ?_
 dsimp only [c_encode]
 have hw := fun h hb hz => w_statei hver st (hok hz).1 (hok hz).2 (h := h) (i := 1) hb
 have hE : Sf.encode ver st = if Sf.checkZ st ≠ 0 then ([], Sf.checkZ st) else if 1048572 < (Sf.stE ver st).length then ([], 3) else (Crc.app (Sf.stE ver st), 0) := rfl
 unfold SCheck at hck
 unfold Sf.St.A at hck hw ⊢
 by_cases hz : Sf.checkZ st = 0
 ·have e1 : (Sf.checkZ st != 0) = false := by simp [hz]
  rw [if_neg (by simp [hz])] at hE
  (refine AX.run0 True.intro ?_)
  refine use (hck _) ?_
  (refine AX.run0 e1 ?_)
  refine use (hw _ rfl hz) ?_
  (refine AX.run0 True.intro ?_)
  refine use (a_wlen (i := 1) (ver := ver) (l := Sf.stE ver st) (.inl rfl)) ?_
  by_cases hl : ((Sf.stE ver st).length : Int) > 1048572
  ·rw [if_pos (by omega)] at hE
   (refine AX.run0 hl ?_)
   exact ⟨_, le_refl _, by rw [hE]; rfl⟩
  ·rw [if_neg (by omega)] at hE
   (refine AX.run0 hl ?_)
   refine use (a_wstring (i := 1) (ver := ver) (l := Sf.stE ver st) (.inl rfl) (stE_ne _ _)) ?_
   (refine AX.run0 True.intro ?_)
   refine use (a_csAppend _ (by omega) _) ?_
   (refine AX.run0 True.intro ?_)
   exact ⟨_, le_refl _, by rw [hE]; rfl⟩
 ·have e1 : (Sf.checkZ st != 0) = true := by simp [hz]
  rw [if_pos hz] at hE
  (refine AX.run0 True.intro ?_)
  refine use (hck _) ?_
  (refine AX.run0 e1 ?_)
  exact ⟨_, le_refl _, by rw [hE]; rfl⟩
theorem a_Encode (st : Sf.St) (hck : SCheck st) (hok : Sf.checkZ st = 0 → Sf.StOk st ∧ (Sf.stE 2 st).length + 20 ≤ 1000000000) (h : Hp) :
  ACall Tryz.prog GT 10 [st.A] h fun r h' => r = .tup [.str (Sf.encode 2 st).1, .int .i64 (Sf.encode 2 st).2] ∧ h' = h := by
 refine pcall ?_ rfl (by simp [A.pure, A.data, Sf.St.A]) h
 refine acall_of mixedT h_Encode (by simp [c_Encode]) ?_
 dsimp only [c_Encode]
 have he := fun h => a_encode (.inr rfl) st hck hok h
 unfold Sf.St.A at he ⊢
 (refine AX.run0 True.intro ?_)
 refine use (he _) ?_
 (refine AX.run0 True.intro ?_)
 exact ⟨_, le_refl _, rfl⟩
theorem a_EncodeOld (st : Sf.St) (hck : SCheck st) (hok : Sf.checkZ st = 0 → Sf.StOk st ∧ (Sf.stE 1 st).length + 20 ≤ 1000000000) (h : Hp) :
  ACall Tryz.prog GT 11 [st.A] h fun r h' => r = .tup [.str (Sf.encode 1 st).1, .int .i64 (Sf.encode 1 st).2] ∧ h' = h := by
 refine pcall ?_ rfl (by simp [A.pure, A.data, Sf.St.A]) h
 refine acall_of mixedT h_EncodeOld (by simp [c_EncodeOld]) ?_
 dsimp only [c_EncodeOld]
 have he := fun h => a_encode (.inl rfl) st hck hok h
 unfold Sf.St.A at he ⊢
 (refine AX.run0 True.intro ?_)
 refine use (he _) ?_
 (refine AX.run0 True.intro ?_)
 exact ⟨_, le_refl _, rfl⟩
theorem liftD {P : Program} {G : World → Prop} {f : FuncId} {args : List A} {ver : Int} {s s' : Sf.Rs} {v : A} (hc : ACall P G f (.ptr 0 0 :: args) ⟨[RB ver s.bad, rdr s.r], []⟩ fun v' h' => v' = v ∧ h' = ⟨[RB ver s'.bad, rdr s'.r], []⟩) (ha : A.locL 0 args = true) (hv : v.loc 0 = true) (z : Blk) (l : List Blk) (t : List (TypeId × Nat × Nat)) :
  ACall P G f (.ptr 2 0 :: args) ⟨z :: rdr s.r :: RB ver s.bad :: l, t⟩ fun v' h' => v' = v ∧ h' = ⟨z :: rdr s'.r :: RB ver s'.bad :: l, t⟩ := by
 have key := ACall.lift hc (fun i => if i = 0 then 2 else i) (fun a b ha hb e => by
   simp only [List.length_cons, List.length_nil] at ha hb
   have h1 : a = 0 ∨ a = 1 := by omega
   have h2 : b = 0 ∨ b = 1 := by omega
   rcases h1 with rfl | rfl <;> rcases h2 with rfl | rfl <;> simp at e ⊢) (by unfold A.locL; rw [(A.locL0 _ args ha).1]; rfl)
  (fun x hx => by
   rcases List.mem_cons.1 hx with rfl | hx
   ·rfl
   ·rw [List.mem_singleton.1 hx]; rfl)
  (fun v' h' ⟨e, h0⟩ => ⟨by rw [e]; exact (A.loc0 _ v hv).1, fun j x hj hx => by
   have : j = 0 ∨ j = 1 := by simp only [List.length_cons, List.length_nil] at hj; omega
   rw [h0] at hx
   rcases this with rfl | rfl
   ·simp only [List.getElem?_cons_zero] at hx; injection hx with hx; subst hx; rfl
   ·simp only [List.getElem?_cons_zero, List.getElem?_cons_succ] at hx; injection hx with hx; subst hx; rfl⟩)
  (h := ⟨z :: rdr s.r :: RB ver s.bad :: l, t⟩) (fun j hj => by
   have : j = 0 ∨ j = 1 := by simp only [List.length_cons, List.length_nil] at hj; omega
   rcases this with rfl | rfl <;> rfl)
 have e : A.renL (fun i => if i = 0 then 2 else i) (.ptr 0 0 :: args) = .ptr 2 0 :: args := by unfold A.renL; rw [(A.locL0 0 args ha).2]; rfl
 rw [e] at key
 refine key.mono ?_
 rintro v' h' ⟨v0, h0, ⟨rfl, rfl⟩, rfl, rfl⟩
 exact ⟨(A.loc0 0 _ hv).2 _, rfl⟩
theorem versionS_12 {s : List UInt8} (h : (versionS s).2 = 0) : (versionS s).1 = 1 ∨ (versionS s).1 = 2 := by
 unfold versionS at h ⊢
 split at h
 ·cases h
 ·rename_i h1
  rw [if_neg h1]
  dsimp only at h ⊢
  split at h
  ·cases h
  ·rename_i h2
   rw [if_neg h2]
   split at h
   ·cases h
   ·rename_i h3
    rw [if_neg h3]
    dsimp only
    omega
theorem a_Decode (s : List UInt8) (hlen : s.length ≤ 1000000000) (hvl : (Crc.ver s).1.length ≤ s.length) (hck : ∀ ver r, r.rest.length ≤ s.length → SCheck (Sf.stateS ver ⟨r, false⟩).2) (h : Hp) :
  ACall Tryz.prog GT 12 [.str s] h fun r h' => r = .tup [(Sf.decode s).1.A, .int .i64 (Sf.decode s).2] ∧ h' = h := by
 refine pcall ?_ rfl (by simp [A.pure, A.data]) h
 refine acall_of mixedT h_Decode (by simp [c_Decode]) ?_
 dsimp only [c_Decode]
 obtain ⟨D, hD⟩ : ∃ D, Sf.decode s = D := ⟨_, rfl⟩
 rw [hD]
 unfold Sf.decode at hD
 have hzA : Sf.zero.A = .agg [.str [], .int .i64 0, .sl 13 .no [], .sl 3 .no [], .sl 7 .no []] := rfl
 have hz : ∀ e : Int, le (.tup [.agg [.str [], .int .i64 0, .sl 0 .nil [], .sl 0 .nil [], .sl 0 .nil []], .int .i64 e]) (.tup [Sf.zero.A, .int .i64 e]) := fun e => ⟨⟨le1_refl _, le1_refl _, ⟨rfl, .inr rfl, .inl rfl⟩, ⟨rfl, .inr rfl, .inl rfl⟩, ⟨rfl, .inr rfl, .inl rfl⟩, trivial⟩, rfl, trivial⟩
 by_cases hl : (s.length : Int) > 1048576
 ·rw [if_pos (by omega)] at hD
  (refine AX.run0 hl ?_)
  exact ⟨_, hz _, by subst hD; rfl⟩
 rw [if_neg (by omega)] at hD
 (refine AX.run0 hl ?_)
 refine use (a_hasPrefix s magic _) ?_
 by_cases hp : preB s = false
 ·rw [if_pos hp] at hD
  unfold preB at hp
  (refine AX.run0 hp ?_)
  exact ⟨_, hz _, by subst hD; rfl⟩
 rw [if_neg hp] at hD
 have hp' : (decide (magic.length ≤ s.length) && s.take magic.length == magic) = true := by unfold preB at hp; simpa using hp
 (refine AX.run0 hp' ?_)
 refine use (a_csVerify s hlen _) ?_
 obtain ⟨⟨b, e⟩, hv⟩ : ∃ q, Crc.ver s = q := ⟨_, rfl⟩
 rw [hv] at hD hvl ⊢
 dsimp only at hD hvl ⊢
 by_cases he : e = 0
 rotate_left
 ·have e1 : (e != 0) = true := by simp [he]
  rw [if_pos he] at hD
  (refine AX.run0 e1 ?_)
  exact ⟨_, hz _, by subst hD; rfl⟩
 have e1 : (e != 0) = false := by simp [he]
 rw [if_neg (by simp [he])] at hD
 (refine AX.run0 e1 ?_)
 refine use (a_version b (by omega) _) ?_
 have h12 := @versionS_12 b
 obtain ⟨⟨n, e2⟩, hn⟩ : ∃ q, versionS b = q := ⟨_, rfl⟩
 rw [hn] at hD h12 ⊢
 dsimp only at hD h12 ⊢
 by_cases he2 : e2 = 0
 rotate_left
 ·have e3 : (e2 != 0) = true := by simp [he2]
  rw [if_pos he2] at hD
  (refine AX.run0 e3 ?_)
  exact ⟨_, hz _, by subst hD; rfl⟩
 have e3 : (e2 != 0) = false := by simp [he2]
 rw [if_neg (by simp [he2])] at hD
 have hb4 : 4 ≤ b.length := by
  have hp4 : preB b = true := by
   rcases bool_or (preB b) with h1 | h1
   ·first | exact h1 | (exfalso; unfold versionS at hn; rw [if_pos h1] at hn; injection hn with _ hn; omega)
   ·first | exact h1 | (exfalso; unfold versionS at hn; rw [if_pos h1] at hn; injection hn with _ hn; omega)
  unfold preB at hp4
  have hml : magic.length = 4 := rfl
  simp only [Bool.and_eq_true, decide_eq_true_eq, hml] at hp4
  exact hp4.1
 have hb5 : (4 : Int) ≤ (b.length : Int) := by omega
 (refine AX.run0 (And.intro e3 hb5) ?_)
 refine use (a_newReader (b.drop 4) _) ?_
 (refine AX.run0 True.intro ?_)
 refine use (a_number (i := 1) (r := ⟨b.drop 4, 0⟩) rfl (by rw [List.length_drop]; omega)) ?_
 have hql := Wire.numR_rest ⟨b.drop 4, 0⟩
 obtain ⟨⟨q, qn⟩, hq⟩ : ∃ x, Wire.numR ⟨b.drop 4, 0⟩ = x := ⟨_, rfl⟩
 rw [hq] at hD hql ⊢
 dsimp only at hD hql ⊢
 rw [List.length_drop] at hql
 have cs := liftD (a_rstate (h12 he2) ⟨q, false⟩ (by dsimp only; omega) [] []) rfl rfl (.cells 26 [.str [], .int .i64 0, .sl 0 .nil [], .sl 0 .nil [], .sl 0 .nil []]) [] []
 have hc := hck n q (by omega)
 obtain ⟨⟨⟨r, bad⟩, st⟩, hs⟩ : ∃ x, Sf.stateS n ⟨q, false⟩ = x := ⟨_, rfl⟩
 rw [hs] at cs hc hD
 unfold SCheck at hc
 unfold Sf.St.A at cs hc
 unfold RB at cs
 dsimp only at cs hc hD
 have cf := liftD (a_rfails (ver := n) ⟨r, bad⟩ [] []) rfl rfl (.cells 26 [.str [], .int .i64 0, .sl 0 .nil [], .sl 0 .nil [], .sl 0 .nil []]) [.cells 26 [.str st.lin, .int .i64 st.ser, .sl 13 .no (st.insts.map Sf.Inst.cells), .sl 3 .no (st.pends.map Sf.Pend.cells), .sl 7 .no (st.outs.map Sf.Outp.cells)]] []
 unfold RB at cf
 dsimp only at cf
 (refine AX.run0 True.intro ?_)
 refine use cs ?_
 (refine AX.run0 True.intro ?_)
 refine use cf ?_
 obtain ⟨F, hF⟩ : ∃ F, (⟨r, bad⟩ : Sf.Rs).fails = F := ⟨_, rfl⟩
 rw [hF] at hD ⊢
 cases F
 rotate_left
 ·rw [if_pos (by simp only [Bool.true_or])] at hD
  (refine AX.run0 True.intro ?_)
  exact ⟨_, hz _, by subst hD; rfl⟩
 simp only [Bool.false_or] at hD
 (refine AX.run0 True.intro ?_)
 refine use (a_left (i := 1) (r := r) rfl) ?_
 by_cases hL : (r.rest.length : Int) > 0
 ·rw [decide_eq_true (show 0 < r.rest.length by omega), if_pos (by simp only [Bool.true_or])] at hD
  (refine AX.run0 hL ?_)
  exact ⟨_, hz _, by subst hD; rfl⟩
 have hL2 : decide (0 < r.rest.length) = false := decide_eq_false (by omega)
 simp only [hL2, Bool.false_or] at hD
 (refine AX.run0 hL ?_)
 refine use (hc _) ?_
 by_cases hk : Sf.checkZ st = 0
 ·have e4 : (Sf.checkZ st != 0) = false := by simp [hk]
  rw [if_neg (by simp [e4])] at hD
  (refine AX.run0 e4 ?_)
  exact ⟨_, le_refl _, by subst hD; rfl⟩
 ·have e4 : (Sf.checkZ st != 0) = true := by simp [hk]
  rw [if_pos e4] at hD
  (refine AX.run0 e4 ?_)
  exact ⟨_, hz _, by subst hD; rfl⟩
end AX
end Go.Proofs.YtnjkemakcejceaaGreatDoor

namespace Go.Proofs.YtnjkemakcejceaaGreatDoor
open Go.RowKit
open Go.Op (bytesLess)
set_option maxHeartbeats 4000000
namespace Adr
def Step.cells (s : Step) : List AX.A := [.str s.name, .int .i64 s.key.kind, .int .i64 s.key.num, .str s.key.str]
def Ad.cells (a : Ad) : List AX.A := [.sl 4 .no (a.mods.map Step.cells), .bool a.data, .str a.type, .str a.name, .int .i64 a.key.kind, .int .i64 a.key.num, .str a.key.str]
end Adr
namespace AX
def cmpZ (a b : List UInt8) : Int := if a == b then 0 else if bytesLess a b then -1 else 1
structure Leafs : Prop where
 parse : ∀ (s : List UInt8), s.length ≤ 2000000 → ∀ h, ACall Tryz.prog GT 81 [.str s] h fun r h' => r = .tup [.agg (Adr.parse s).1.cells, .int .i64 (Adr.parse s).2] ∧ h' = h
 static : ∀ (s : List UInt8), s.length ≤ 2000000 → ∀ h, ACall Tryz.prog GT 119 [.str s] h fun r h' => r = .tup [.str (Adr.static s).1, .int .i64 (Adr.static s).2] ∧ h' = h
 ident : ∀ (s : List UInt8), s.length ≤ 2000000 → ∀ h, ACall Tryz.prog GT 82 [.str s] h fun r h' => r = .bool (Adr.ident s) ∧ h' = h
 num : ∀ (s : List UInt8), s.length ≤ 2000000 → ∀ h, ACall Tryz.prog GT 114 [.str s] h fun r h' => r = .tup [.int .i64 (Num.parse s).1, .int .i64 (Num.parse s).2] ∧ h' = h
 cmp : ∀ (a b : List UInt8) h, ACall Tryz.prog GT 80 [.str a, .str b] h fun r h' => r = .int .i64 (cmpZ a b) ∧ h' = h
 known : ∀ (v : V), v.lens → ∀ h, ACall Tryz.prog GT 77 [v.A] h fun r h' => r = .bool (Sf.known v) ∧ h' = h
 text : ∀ (s : List UInt8), s.length ≤ 2000000 → ∀ h, ACall Tryz.prog GT 39 [.str s] h fun r h' => r = .bool (Sf.text s) ∧ h' = h
def c_smanaged : AX.AFn := ⟨25, .seq (.reg false [⟨some 4, .mv (.c (.bool false)), none, []⟩]) (.seq (.reg false [⟨some 8, .mv (.t 0), none, []⟩, ⟨some 9, .call 81 [.t 8], none, []⟩, ⟨some 7, .mv (.t 9), none, []⟩, ⟨some 10, .extract (.t 7) 0, none, []⟩, ⟨some 11, .extract (.t 7) 1, none, []⟩, ⟨some 5, .alloc 133 [.sl 0 .nil [], .bool false, .str [], .str [], .int .i64 0, .int .i64 0, .str []], none, []⟩, ⟨none, .store 7 (.t 5) (.t 10), none, []⟩, ⟨some 6, .mv (.t 11), none, []⟩]) (.seq (.reg false [⟨some 12, .mv (.t 6), none, []⟩, ⟨some 13, .bin .eql (.t 12) (.c (.int .i64 0)), none, []⟩, ⟨some 14, .mv (.t 13), none, []⟩, ⟨some 15, .faddr 1 (.t 5), some (14, true), []⟩, ⟨some 16, .load false 1 (.t 15), some (14, true), []⟩, ⟨some 17, .un .not (.t 16), some (14, true), []⟩, ⟨some 18, .pick (.t 14) (.t 17) (.c (.bool false)), none, []⟩, ⟨some 19, .mv (.t 18), none, []⟩, ⟨some 20, .faddr 2 (.t 5), some (19, true), []⟩, ⟨some 21, .load false 1 (.t 20), some (19, true), []⟩, ⟨some 22, .mv (.t 1), some (19, true), []⟩, ⟨some 23, .bin .eql (.t 21) (.t 22), some (19, true), []⟩, ⟨some 24, .pick (.t 19) (.t 23) (.c (.bool false)), none, []⟩, ⟨some 4, .mv (.t 24), none, []⟩]) (.ret))), [.t 4]⟩
theorem h_smanaged : AX.compFn Tryz.prog 43 = some c_smanaged := by kernel_rfl
def c_skey : AX.AFn := ⟨16, .seq (.reg false [⟨some 2, .mv (.c (.bool false)), none, []⟩]) (.seq (.reg false [⟨some 6, .mv (.t 0), none, []⟩, ⟨some 7, .call 114 [.t 6], none, []⟩, ⟨some 5, .mv (.t 7), none, []⟩, ⟨some 8, .extract (.t 5) 0, none, []⟩, ⟨some 9, .extract (.t 5) 1, none, []⟩, ⟨some 3, .mv (.t 8), none, []⟩, ⟨some 4, .mv (.t 9), none, []⟩]) (.seq (.reg false [⟨some 10, .mv (.t 4), none, []⟩, ⟨some 11, .bin .eql (.t 10) (.c (.int .i64 0)), none, []⟩, ⟨some 12, .mv (.t 11), none, []⟩, ⟨some 13, .mv (.t 3), some (12, true), []⟩, ⟨some 14, .bin .geq (.t 13) (.c (.int .i64 1)), some (12, true), []⟩, ⟨some 15, .pick (.t 12) (.t 14) (.c (.bool false)), none, []⟩, ⟨some 2, .mv (.t 15), none, []⟩]) (.ret))), [.t 2]⟩
theorem h_skey : AX.compFn Tryz.prog 75 = some c_skey := by kernel_rfl
def c_splaceOf : AX.AFn := ⟨8, .seq (.reg false [⟨some 1, .box 42 (.t 0), none, []⟩, ⟨some 2, .alloc 91 [.str [], .str []], none, []⟩]) (.seq (.reg false [⟨some 3, .faddr 0 (.t 1), none, []⟩, ⟨some 4, .load false 1 (.t 3), none, []⟩, ⟨some 5, .faddr 1 (.t 1), none, []⟩, ⟨some 6, .load false 1 (.t 5), none, []⟩, ⟨some 7, .build [.str [], .str []] [(0, 1, .t 4), (1, 1, .t 6)], none, []⟩, ⟨none, .store 2 (.t 2) (.t 7), none, []⟩]) (.ret)), [.c 2 true 2]⟩
theorem h_splaceOf : AX.compFn Tryz.prog 41 = some c_splaceOf := by kernel_rfl
def c_sstatics : AX.AFn := ⟨40, .seq (.reg false [⟨some 2, .mv (.c (.bool false)), none, []⟩]) (.seq (.seq (.reg false [⟨some 7, .mv (.t 0), none, []⟩, ⟨some 8, .len false (.t 7), none, []⟩, ⟨some 9, .mv (.c (.int .i64 0)), none, []⟩]) (.block 0 (.loop (.seq (.reg false [⟨some 10, .bin .lss (.t 9) (.t 8), none, []⟩]) (.seq (.cond (.t 10) (.skip) (.exit 0)) (.seq (.block 1 (.seq (.reg false [⟨some 11, .mv (.t 9), none, []⟩, ⟨some 12, .iaddr 1 (.t 7) (.t 9), none, []⟩, ⟨some 13, .load false 1 (.t 12), none, []⟩, ⟨some 3, .mv (.t 11), none, []⟩, ⟨some 4, .mv (.t 13), none, []⟩]) (.seq (.reg false [⟨some 15, .mv (.t 4), none, []⟩, ⟨some 16, .call 119 [.t 15], none, []⟩, ⟨some 14, .mv (.t 16), none, []⟩, ⟨some 17, .extract (.t 14) 0, none, []⟩, ⟨some 18, .extract (.t 14) 1, none, []⟩, ⟨some 5, .mv (.t 17), none, []⟩, ⟨some 6, .mv (.t 18), none, []⟩]) (.seq (.reg false [⟨some 19, .mv (.t 6), none, []⟩, ⟨some 20, .bin .neq (.t 19) (.c (.int .i64 0)), none, []⟩, ⟨some 21, .mv (.t 20), none, []⟩, ⟨some 22, .mv (.t 5), some (21, false), []⟩, ⟨some 23, .mv (.t 4), some (21, false), []⟩, ⟨some 24, .bin .neq (.t 22) (.t 23), some (21, false), []⟩, ⟨some 25, .pick (.t 21) (.c (.bool true)) (.t 24), none, []⟩, ⟨some 26, .mv (.t 25), none, []⟩, ⟨some 27, .mv (.t 3), some (26, false), []⟩, ⟨some 28, .bin .gtr (.t 27) (.c (.int .i64 0)), some (26, false), []⟩, ⟨some 29, .mv (.t 28), some (26, false), []⟩, ⟨some 30, .mv (.t 4), some (29, true), []⟩, ⟨some 31, .mv (.t 0), some (29, true), []⟩, ⟨some 32, .mv (.t 3), some (29, true), []⟩, ⟨some 33, .bin .sub (.t 32) (.c (.int .i64 1)), some (29, true), []⟩, ⟨some 34, .iaddr 1 (.t 31) (.t 33), some (29, true), []⟩, ⟨some 35, .load false 1 (.t 34), some (29, true), []⟩, ⟨some 36, .bin .leq (.t 30) (.t 35), some (29, true), []⟩, ⟨some 37, .pick (.t 29) (.t 36) (.c (.bool false)), some (26, false), []⟩, ⟨some 38, .pick (.t 26) (.c (.bool true)) (.t 37), none, []⟩]) (.cond (.t 38) (.seq (.reg false [⟨some 2, .mv (.c (.bool false)), none, []⟩]) (.ret)) (.skip)))))) (.reg false [⟨some 39, .bin .add (.t 9) (.c (.int .i64 1)), none, []⟩, ⟨some 9, .mv (.t 39), none, []⟩]))))))) (.seq (.reg false [⟨some 2, .mv (.c (.bool true)), none, []⟩]) (.ret))), [.t 2]⟩
theorem h_sstatics : AX.compFn Tryz.prog 78 = some c_sstatics := by kernel_rfl
def c_soutput : AX.AFn := ⟨18, .seq (.reg false [⟨some 1, .box 98 (.t 0), none, []⟩, ⟨some 2, .mv (.c (.int .i64 0)), none, []⟩]) (.seq (.seq (.reg false [⟨some 4, .faddr 0 (.t 1), none, []⟩, ⟨some 5, .load false 1 (.t 4), none, []⟩, ⟨some 6, .call 82 [.t 5], none, []⟩, ⟨some 7, .un .not (.t 6), none, []⟩]) (.cond (.t 7) (.seq (.reg false [⟨some 2, .mv (.c (.int .i64 7)), none, []⟩]) (.ret)) (.skip))) (.seq (.seq (.reg false [⟨some 8, .faddr 1 (.t 1), none, []⟩, ⟨some 9, .load true 5 (.t 8), none, []⟩, ⟨some 10, .call 76 [.t 9], none, []⟩, ⟨some 3, .mv (.t 10), none, []⟩]) (.seq (.reg false [⟨some 11, .mv (.t 3), none, []⟩, ⟨some 12, .bin .neq (.t 11) (.c (.int .i64 0)), none, []⟩]) (.cond (.t 12) (.seq (.reg false [⟨some 13, .mv (.t 3), none, []⟩, ⟨some 2, .mv (.t 13), none, []⟩]) (.ret)) (.skip)))) (.seq (.seq (.reg false [⟨some 14, .faddr 1 (.t 1), none, []⟩, ⟨some 15, .load true 5 (.t 14), none, []⟩, ⟨some 16, .call 77 [.t 15], none, []⟩, ⟨some 17, .un .not (.t 16), none, []⟩]) (.cond (.t 17) (.seq (.reg false [⟨some 2, .mv (.c (.int .i64 11)), none, []⟩]) (.ret)) (.skip))) (.seq (.reg false [⟨some 2, .mv (.c (.int .i64 0)), none, []⟩]) (.ret))))), [.t 2]⟩
theorem h_soutput : AX.compFn Tryz.prog 44 = some c_soutput := by kernel_rfl
def c_sinstance : AX.AFn := ⟨53, .seq (.reg false [⟨some 1, .box 42 (.t 0), none, []⟩, ⟨some 2, .mv (.c (.int .i64 0)), none, []⟩]) (.seq (.seq (.reg false [⟨some 4, .faddr 0 (.t 1), none, []⟩, ⟨some 5, .load false 1 (.t 4), none, []⟩, ⟨some 6, .faddr 3 (.t 1), none, []⟩, ⟨some 7, .load false 1 (.t 6), none, []⟩, ⟨some 8, .call 43 [.t 5, .t 7], none, []⟩, ⟨some 9, .un .not (.t 8), none, []⟩, ⟨some 10, .mv (.t 9), none, []⟩, ⟨some 11, .faddr 1 (.t 1), some (10, false), []⟩, ⟨some 12, .load false 1 (.t 11), some (10, false), []⟩, ⟨some 13, .bin .neq (.t 12) (.c (.str [])), some (10, false), []⟩, ⟨some 14, .mv (.t 13), some (10, false), []⟩, ⟨some 15, .faddr 1 (.t 1), some (14, true), []⟩, ⟨some 16, .load false 1 (.t 15), some (14, true), []⟩, ⟨some 17, .call 75 [.t 16], some (14, true), []⟩, ⟨some 18, .un .not (.t 17), some (14, true), []⟩, ⟨some 19, .pick (.t 14) (.t 18) (.c (.bool false)), some (10, false), []⟩, ⟨some 20, .pick (.t 10) (.c (.bool true)) (.t 19), none, []⟩, ⟨some 21, .mv (.t 20), none, []⟩, ⟨some 22, .faddr 2 (.t 1), some (21, false), []⟩, ⟨some 23, .load false 1 (.t 22), some (21, false), []⟩, ⟨some 24, .call 39 [.t 23], some (21, false), []⟩, ⟨some 25, .un .not (.t 24), some (21, false), []⟩, ⟨some 26, .pick (.t 21) (.c (.bool true)) (.t 25), none, []⟩]) (.cond (.t 26) (.seq (.reg false [⟨some 2, .mv (.c (.int .i64 1)), none, []⟩]) (.ret)) (.skip))) (.seq (.seq (.reg false [⟨some 27, .faddr 4 (.t 1), none, []⟩, ⟨some 28, .load true 5 (.t 27), none, []⟩, ⟨some 29, .call 76 [.t 28], none, []⟩, ⟨some 3, .mv (.t 29), none, []⟩]) (.seq (.reg false [⟨some 30, .mv (.t 3), none, []⟩, ⟨some 31, .bin .neq (.t 30) (.c (.int .i64 0)), none, []⟩]) (.cond (.t 31) (.seq (.reg false [⟨some 32, .mv (.t 3), none, []⟩, ⟨some 2, .mv (.t 32), none, []⟩]) (.ret)) (.skip)))) (.seq (.seq (.reg false [⟨some 33, .faddr 4 (.t 1), none, []⟩, ⟨some 34, .faddr 0 (.t 33), none, []⟩, ⟨some 35, .load false 1 (.t 34), none, []⟩, ⟨some 36, .bin .neq (.t 35) (.c (.int .i64 5)), none, []⟩]) (.cond (.t 36) (.seq (.reg false [⟨some 2, .mv (.c (.int .i64 6)), none, []⟩]) (.ret)) (.skip))) (.seq (.seq (.reg false [⟨some 37, .faddr 4 (.t 1), none, []⟩, ⟨some 38, .load true 5 (.t 37), none, []⟩, ⟨some 39, .call 77 [.t 38], none, []⟩, ⟨some 40, .un .not (.t 39), none, []⟩]) (.cond (.t 40) (.seq (.reg false [⟨some 2, .mv (.c (.int .i64 11)), none, []⟩]) (.ret)) (.skip))) (.seq (.seq (.reg false [⟨some 41, .faddr 9 (.t 1), none, []⟩, ⟨some 42, .load false 1 (.t 41), none, []⟩, ⟨some 43, .bin .lss (.t 42) (.c (.int .i64 1)), none, []⟩, ⟨some 44, .mv (.t 43), none, []⟩, ⟨some 45, .faddr 9 (.t 1), some (44, false), []⟩, ⟨some 46, .load false 1 (.t 45), some (44, false), []⟩, ⟨some 47, .bin .gtr (.t 46) (.c (.int .i64 9007199254740992)), some (44, false), []⟩, ⟨some 48, .pick (.t 44) (.c (.bool true)) (.t 47), none, []⟩]) (.cond (.t 48) (.seq (.reg false [⟨some 2, .mv (.c (.int .i64 5)), none, []⟩]) (.ret)) (.skip))) (.seq (.seq (.reg false [⟨some 49, .faddr 12 (.t 1), none, []⟩, ⟨some 50, .load false 1 (.t 49), none, []⟩, ⟨some 51, .call 78 [.t 50], none, []⟩, ⟨some 52, .un .not (.t 51), none, []⟩]) (.cond (.t 52) (.seq (.reg false [⟨some 2, .mv (.c (.int .i64 1)), none, []⟩]) (.ret)) (.skip))) (.seq (.reg false [⟨some 2, .mv (.c (.int .i64 0)), none, []⟩]) (.ret)))))))), [.t 2]⟩
theorem h_sinstance : AX.compFn Tryz.prog 40 = some c_sinstance := by kernel_rfl
theorem a_managed (L : Leafs) (s t : List UInt8) (hs : s.length ≤ 2000000) (h : Hp) : ACall Tryz.prog GT 43 [.str s, .str t] h fun r h' => r = .bool (Sf.managed s t) ∧ h' = h := by
 refine pcall ?_ rfl (by simp [A.pure, A.data]) h
 refine acall_of mixedT h_smanaged (by simp [c_smanaged]) ?_
 dsimp only [c_smanaged]
 have hp := fun h => L.parse s hs h
 unfold Sf.managed
 obtain ⟨⟨⟨mods, data, ty, nm, ⟨kk, kn, ks⟩⟩, e⟩, he⟩ : ∃ x, Adr.parse s = x := ⟨_, rfl⟩
 rw [he] at hp ⊢
 simp only [Adr.Ad.cells] at hp
 (refine AX.run0 True.intro ?_)
 refine use (hp _) ?_
 dsimp only
 rcases bool_or (e == 0) with e0 | e0
 ·rw [e0]
  (refine AX.run0 e0 ?_)
  first
  | exact ⟨_, le_refl _, rfl⟩
  | (cases data
     · (refine AX.run0 True.intro ?_)
       exact ⟨_, le_refl _, rfl⟩
     · (refine AX.run0 True.intro ?_)
       exact ⟨_, le_refl _, rfl⟩)
 ·rw [e0]
  (refine AX.run0 e0 ?_)
  first
  | exact ⟨_, le_refl _, rfl⟩
  | (cases data
     · (refine AX.run0 True.intro ?_)
       exact ⟨_, le_refl _, rfl⟩
     · (refine AX.run0 True.intro ?_)
       exact ⟨_, le_refl _, rfl⟩)
theorem a_key (L : Leafs) (s : List UInt8) (hs : s.length ≤ 2000000) (h : Hp) : ACall Tryz.prog GT 75 [.str s] h fun r h' => r = .bool ((Num.parse s).2 == 0 && decide (1 ≤ (Num.parse s).1)) ∧ h' = h := by
 refine pcall ?_ rfl (by simp [A.pure, A.data]) h
 refine acall_of mixedT h_skey (by simp [c_skey]) ?_
 dsimp only [c_skey]
 have hp := fun h => L.num s hs h
 obtain ⟨⟨n, e⟩, he⟩ : ∃ x, Num.parse s = x := ⟨_, rfl⟩
 rw [he] at hp ⊢
 dsimp only at hp ⊢
 (refine AX.run0 True.intro ?_)
 refine use (hp _) ?_
 rcases bool_or (e == 0) with e0 | e0
 ·rw [e0]
  (refine AX.run0 e0 ?_)
  exact ⟨_, le_refl _, rfl⟩
 ·rw [e0]
  (refine AX.run0 e0 ?_)
  exact ⟨_, le_refl _, rfl⟩
theorem a_placeOf (x : Sf.Inst) (h : Hp) : ACall Tryz.prog GT 41 [.agg x.cells] h fun r h' => r = .agg [.str x.addr, .str x.dep] ∧ h' = h := by
 obtain ⟨a, d, id, ty, ⟨k, n, w, vi, vy⟩, v, tn, fi, ds⟩ := x
 refine pcall ?_ rfl (by simp [A.pure, A.data, Sf.Inst.cells]) h
 refine acall_of mixedT h_splaceOf (by simp [c_splaceOf]) ?_
 dsimp only [c_splaceOf, Sf.Inst.cells]
 (refine AX.run0 True.intro ?_)
 exact ⟨_, le_refl _, rfl⟩
theorem a_output (L : Leafs) (o : Sf.Outp) (hs : o.name.length ≤ 2000000) (hl : o.value.lens) (h : Hp) : ACall Tryz.prog GT 44 [.agg o.cells] h fun r h' => r = .int .i64 (Sf.outZ o) ∧ h' = h := by
 have hi := fun h => L.ident o.name hs h
 have hk := fun h => L.known o.value hl h
 have hc := fun h => a_vCheck o.value hl h
 obtain ⟨Z, hZ⟩ : ∃ Z, Sf.outZ o = Z := ⟨_, rfl⟩
 rw [hZ]
 unfold Sf.outZ at hZ
 obtain ⟨m, ⟨k, n, w, vi, vy⟩, b⟩ := o
 dsimp only at hi hk hc hZ
 have hVA : (V.mk k n w vi vy).A = .agg [.int .i64 k, .int .i64 n, .str w, .sl 5 .no (V.cellss vi), .sl 1 .no (strsA vy)] := by simp only [V.A, V.cells]
 rw [hVA] at hk hc
 refine pcall ?_ rfl (by simp [A.pure, A.data, Sf.Outp.cells]) h
 refine acall_of mixedT h_soutput (by simp [c_soutput]) ?_
 dsimp only [c_soutput, Sf.Outp.cells]
 (refine AX.run0 True.intro ?_)
 refine use (hi _) ?_
 cases hI : Adr.ident m
 ·rw [hI, if_pos (by decide)] at hZ
  (refine AX.run0 True.intro ?_)
  exact ⟨_, le_refl _, by rw [← hZ]; rfl⟩
 rw [hI, if_neg (by decide)] at hZ
 (refine AX.run0 True.intro ?_)
 refine use (hc _) ?_
 by_cases hz : Val.checkZ (.mk k n w vi vy) = 0
 rotate_left
 ·have e1 : (Val.checkZ (.mk k n w vi vy) != 0) = true := by simp [hz]
  rw [if_pos hz] at hZ
  (refine AX.run0 e1 ?_)
  exact ⟨_, le_refl _, by rw [← hZ]; rfl⟩
 have e1 : (Val.checkZ (.mk k n w vi vy) != 0) = false := by simp [hz]
 rw [if_neg (by simp [hz])] at hZ
 (refine AX.run0 e1 ?_)
 refine use (hk _) ?_
 cases hK : Sf.known (.mk k n w vi vy)
 ·rw [hK, if_pos (by decide)] at hZ
  (refine AX.run0 True.intro ?_)
  exact ⟨_, le_refl _, by rw [← hZ]; rfl⟩
 ·rw [hK, if_neg (by decide)] at hZ
  (refine AX.run0 True.intro ?_)
  exact ⟨_, le_refl _, by rw [← hZ]; rfl⟩
theorem a_statics (L : Leafs) (ds : List (List UInt8)) (hn : ds.length ≤ 1000000000) (hs : ∀ s ∈ ds, s.length ≤ 2000000) (h : Hp) : ACall Tryz.prog GT 78 [.sl 1 .no (strsA ds)] h fun r h' => r = .bool (Sf.depsB none ds) ∧ h' = h := by
 refine pcall ?_ rfl (by simp [A.pure, A.data]) h
 refine acall_of mixedT h_sstatics (by simp [c_sstatics]) ?_
 dsimp only [c_sstatics]
 obtain ⟨D, hD⟩ : ∃ D, Sf.depsB none ds = D := ⟨_, rfl⟩
 rw [hD]
 have lm : (strsA ds).length = ds.length := strsA_length ds
 (refine AX.run0 lm ?_)
 refine awp_loop (fun mm ts h => ∃ (j : Nat), mm = ds.length - j ∧ j ≤ ds.length ∧ h = ⟨[], []⟩ ∧ Sf.depsB (if j = 0 then none else ds[j - 1]?) (ds.drop j) = D ∧ ts 0 = .sl 1 .no (strsA ds) ∧ ts 7 = .sl 1 .no (strsA ds) ∧ ts 8 = .int .i64 (ds.length : Nat) ∧ ts 9 = .int .i64 (j : Nat)) ds.length ?_ ?_
 ·exact ⟨0, by omega, by omega, rfl, hD, by (exact AX.ev0 True.intro), by (exact AX.ev0 True.intro), by (exact AX.ev0 lm), by (exact AX.inv0 True.intro)⟩
 rintro mm ts h ⟨j, rfl, hjc, rfl, hit, t0, ta, tb, tc⟩
 by_cases hj : j < ds.length
 ·have hlt : (j : Int) < (ds.length : Int) := by omega
  have hlt' : (j : Int) < ((strsA ds).length : Int) := by rw [strsA_length]; exact hlt
  have hj0 : (0 : Int) ≤ (j : Int) := by omega
  have ei : IntKind.i64.wrap ((j : Int) + 1) = ((j + 1 : Nat) : Int) := by rw [wrap64 (by omega) (by omega)]; omega
  have hg := strsA_get ds j hj
  have hst := fun h => L.static ds[j] (hs _ (List.getElem_mem hj)) h
  rw [List.drop_eq_getElem_cons hj] at hit
  unfold Sf.depsB at hit
  have hsB : Sf.staticB ds[j] = ((Adr.static ds[j]).2 == 0 && (Adr.static ds[j]).1 == ds[j]) := rfl
  obtain ⟨⟨w, e⟩, hw⟩ : ∃ q, Adr.static ds[j] = q := ⟨_, rfl⟩
  rw [hw] at hst hsB
  dsimp only at hst hsB
  rw [hsB] at hit
  (refine AX.run0 (And.intro t0 (And.intro ta (And.intro tb (And.intro tc (And.intro hlt (And.intro hg (And.intro hlt' hj0))))))) ?_)
  refine use (hst _) ?_
  by_cases he : e = 0
  rotate_left
  ·have e1 : (e != 0) = true := by simp [he]
   have e2 : (e == 0) = false := by simp [he]
   rw [e2, Bool.false_and, Bool.false_and, Bool.false_and] at hit
   subst hit
   (refine AX.run0 (And.intro t0 (And.intro ta (And.intro tb (And.intro tc e1)))) ?_)
   exact ⟨_, le_refl _, rfl⟩
  have e1 : (e != 0) = false := by simp [he]
  have e2 : (e == 0) = true := by simp [he]
  rw [e2, Bool.true_and] at hit
  by_cases hw2 : w = ds[j]
  rotate_left
  ·have w1 : (w != ds[j]) = true := by simp [hw2]
   have w2 : (w == ds[j]) = false := by simp [hw2]
   rw [w2, Bool.false_and, Bool.false_and] at hit
   subst hit
   (refine AX.run0 (And.intro t0 (And.intro ta (And.intro tb (And.intro tc (And.intro e1 w1))))) ?_)
   exact ⟨_, le_refl _, rfl⟩
  have w1 : (w != ds[j]) = false := by simp [hw2]
  have w2 : (w == ds[j]) = true := by simp [hw2]
  rw [w2, Bool.true_and] at hit
  cases j with
  | zero =>
   have h0 : ¬ ((0 : Nat) : Int) > 0 := by omega
   simp only [if_true, Val.badB, Bool.not_false, Bool.true_and] at hit
   (refine AX.run0 (And.intro t0 (And.intro ta (And.intro tb (And.intro tc (And.intro e1 (And.intro w1 (And.intro h0 ei))))))) ?_)
   exact ⟨ds.length - 1, by omega, 1, rfl, by omega, rfl, by rw [← hit]; simp [hj], by (exact AX.ev0 t0), by (exact AX.ev0 ta), by (exact AX.ev0 tb), by (exact AX.ev0 ei)⟩
  | succ i =>
   have h0 : ((i + 1 : Nat) : Int) > 0 := by omega
   have ej : IntKind.i64.wrap (((i + 1 : Nat) : Int) - 1) = (i : Int) := by rw [wrap64 (by omega) (by omega)]; omega
   have hg2 := strsA_get ds i (by omega)
   have hi' : (i : Int) < ((strsA ds).length : Int) := by omega
   have hi0 : (0 : Int) ≤ (i : Int) := by omega
   have hki : ds[i + 1 - 1]? = some (ds[i]'(by omega)) := List.getElem?_eq_getElem (by omega)
   rw [if_neg (by omega), hki] at hit
   simp only [Val.badB] at hit
   rw [Val.less_total] at hit
   rcases bool_or (bytesLess ds[i + 1] ds[i] || ds[i + 1] == ds[i]) with hb | hb
   ·rw [hb] at hit
    (refine AX.run0 (And.intro t0 (And.intro ta (And.intro tb (And.intro tc (And.intro e1 (And.intro w1 (And.intro h0 (And.intro ej (And.intro hg2 (And.intro hi' (And.intro hi0 (And.intro hb ei)))))))))))) ?_)
    first
    | (subst hit; exact ⟨_, le_refl _, rfl⟩)
    | exact ⟨ds.length - (i + 1 + 1), by omega, i + 1 + 1, rfl, by omega, rfl, by rw [← hit]; simp [hj], by (exact AX.ev0 t0), by (exact AX.ev0 ta), by (exact AX.ev0 tb), by (exact AX.ev0 ei)⟩
   ·rw [hb] at hit
    (refine AX.run0 (And.intro t0 (And.intro ta (And.intro tb (And.intro tc (And.intro e1 (And.intro w1 (And.intro h0 (And.intro ej (And.intro hg2 (And.intro hi' (And.intro hi0 (And.intro hb ei)))))))))))) ?_)
    first
    | (subst hit; exact ⟨_, le_refl _, rfl⟩)
    | exact ⟨ds.length - (i + 1 + 1), by omega, i + 1 + 1, rfl, by omega, rfl, by rw [← hit]; simp [hj], by (exact AX.ev0 t0), by (exact AX.ev0 ta), by (exact AX.ev0 tb), by (exact AX.ev0 ei)⟩
 ·have hlt : ¬ ((j : Int) < (ds.length : Int)) := by omega
  rw [List.drop_eq_nil_of_le (by omega)] at hit
  unfold Sf.depsB at hit
  subst hit
  (refine AX.run0 (And.intro t0 (And.intro ta (And.intro tb (And.intro tc hlt)))) ?_)
  exact ⟨_, le_refl _, rfl⟩
structure Sf.InstIn (x : Sf.Inst) : Prop where
 a : x.addr.length ≤ 2000000
 d : x.dep.length ≤ 2000000
 i : x.id.length ≤ 2000000
 l : x.attrs.lens
 n : x.deps.length ≤ 1000000000
 ds : ∀ s ∈ x.deps, s.length ≤ 2000000
theorem a_instance (L : Leafs) (x : Sf.Inst) (hx : Sf.InstIn x) (h : Hp) : ACall Tryz.prog GT 40 [.agg x.cells] h fun r h' => r = .int .i64 (Sf.instZ x) ∧ h' = h := by
 have cm := fun h => a_managed L x.addr x.typ hx.a h
 have ck := fun h => a_key L x.dep hx.d h
 have ct := fun h => L.text x.id hx.i h
 have cv := fun h => a_vCheck x.attrs hx.l h
 have cn := fun h => L.known x.attrs hx.l h
 have cs := fun h => a_statics L x.deps hx.n hx.ds h
 obtain ⟨Z, hZ⟩ : ∃ Z, Sf.instZ x = Z := ⟨_, rfl⟩
 rw [hZ]
 unfold Sf.instZ Sf.keyB at hZ
 obtain ⟨a, d, id, ty, ⟨k, n, w, vi, vy⟩, v, tn, fi, ds⟩ := x
 clear hx
 dsimp only at cm ck ct cv cn cs hZ
 have hVA : (V.mk k n w vi vy).A = .agg [.int .i64 k, .int .i64 n, .str w, .sl 5 .no (V.cellss vi), .sl 1 .no (strsA vy)] := by simp only [V.A, V.cells]
 rw [hVA] at cv cn
 obtain ⟨M, hM⟩ : ∃ M, Sf.managed a ty = M := ⟨_, rfl⟩
 obtain ⟨K, hK⟩ : ∃ K, ((Num.parse d).2 == 0 && decide (1 ≤ (Num.parse d).1)) = K := ⟨_, rfl⟩
 obtain ⟨T, hT⟩ : ∃ T, Sf.text id = T := ⟨_, rfl⟩
 obtain ⟨C, hC⟩ : ∃ C, Val.checkZ (.mk k n w vi vy) = C := ⟨_, rfl⟩
 obtain ⟨N, hN⟩ : ∃ N, Sf.known (.mk k n w vi vy) = N := ⟨_, rfl⟩
 obtain ⟨S, hS⟩ : ∃ S, Sf.depsB none ds = S := ⟨_, rfl⟩
 have hkd : Sf.V.kind (.mk k n w vi vy) = k := rfl
 rw [hM] at cm hZ
 rw [hK] at ck hZ
 rw [hT] at ct hZ
 rw [hC] at cv hZ
 rw [hN] at cn hZ
 rw [hS] at cs hZ
 rw [hkd] at hZ
 refine pcall ?_ rfl (by simp [A.pure, A.data, Sf.Inst.cells]) h
 refine acall_of mixedT h_sinstance (by simp [c_sinstance]) ?_
 dsimp only [c_sinstance, Sf.Inst.cells]
 (refine AX.run0 True.intro ?_)
 refine use (cm _) ?_
 cases M
 ·rw [if_pos (by simp)] at hZ
  subst hZ
  (refine AX.run0 True.intro ?_)
  exact ⟨_, le_refl _, rfl⟩
 have key : ∀ {G : Prop}, ((d != []) = false → (d == []) = true → G) → ((d != []) = true → (d == []) = false → G) → G := fun p q => by
  by_cases e : d = []
  ·exact p (by simp [e]) (by simp [e])
  ·exact q (by simp [e]) (by simp [e])
 have rest : True := True.intro
 refine key (fun d1 d2 => ?_) (fun d1 d2 => ?_)
 all_goals rw [d2] at hZ
 ·(refine AX.run0 d1 ?_)
  refine use (ct _) ?_
  cases T
  ·rw [if_pos (by simp)] at hZ
   subst hZ
   (refine AX.run0 True.intro ?_)
   exact ⟨_, le_refl _, rfl⟩
  rw [if_neg (by simp)] at hZ
  (refine AX.run0 True.intro ?_)
  refine use (cv _) ?_
  by_cases hz : C = 0
  rotate_left
  ·have e1 : (C != 0) = true := by simp [hz]
   rw [if_pos hz] at hZ
   (refine AX.run0 e1 ?_)
   exact ⟨_, le_refl _, by rw [← hZ]; rfl⟩
  have e1 : (C != 0) = false := by simp [hz]
  rw [if_neg (by simp [hz])] at hZ
  by_cases hk5 : k = 5
  rotate_left
  ·have e2 : (k != 5) = true := by simp [hk5]
   rw [if_pos hk5] at hZ
   (refine AX.run0 (And.intro e1 e2) ?_)
   exact ⟨_, le_refl _, by rw [← hZ]; rfl⟩
  have e2 : (k != 5) = false := by simp [hk5]
  rw [if_neg (by simp [hk5])] at hZ
  (refine AX.run0 (And.intro e1 e2) ?_)
  refine use (cn _) ?_
  cases N
  ·rw [if_pos (by simp)] at hZ
   (refine AX.run0 True.intro ?_)
   exact ⟨_, le_refl _, by rw [← hZ]; rfl⟩
  rw [if_neg (by simp)] at hZ
  by_cases v0 : v < 1
  ·rw [if_pos (.inl v0)] at hZ
   (refine AX.run0 v0 ?_)
   exact ⟨_, le_refl _, by rw [← hZ]; rfl⟩
  by_cases v1 : v > 9007199254740992
  ·rw [if_pos (.inr v1)] at hZ
   (refine AX.run0 (And.intro v0 v1) ?_)
   exact ⟨_, le_refl _, by rw [← hZ]; rfl⟩
  rw [if_neg (by omega)] at hZ
  (refine AX.run0 (And.intro v0 v1) ?_)
  refine use (cs _) ?_
  cases S
  ·rw [if_pos (by simp)] at hZ
   (refine AX.run0 True.intro ?_)
   exact ⟨_, le_refl _, by rw [← hZ]; rfl⟩
  ·rw [if_neg (by simp)] at hZ
   (refine AX.run0 True.intro ?_)
   exact ⟨_, le_refl _, by rw [← hZ]; rfl⟩
 ·(refine AX.run0 d1 ?_)
  refine use (ck _) ?_
  cases K
  ·rw [if_pos (by simp)] at hZ
   subst hZ
   (refine AX.run0 True.intro ?_)
   exact ⟨_, le_refl _, rfl⟩
  (refine AX.run0 True.intro ?_)
  refine use (ct _) ?_
  cases T
  ·rw [if_pos (by simp)] at hZ
   subst hZ
   (refine AX.run0 True.intro ?_)
   exact ⟨_, le_refl _, rfl⟩
  rw [if_neg (by simp)] at hZ
  (refine AX.run0 True.intro ?_)
  refine use (cv _) ?_
  by_cases hz : C = 0
  rotate_left
  ·have e1 : (C != 0) = true := by simp [hz]
   rw [if_pos hz] at hZ
   (refine AX.run0 e1 ?_)
   exact ⟨_, le_refl _, by rw [← hZ]; rfl⟩
  have e1 : (C != 0) = false := by simp [hz]
  rw [if_neg (by simp [hz])] at hZ
  by_cases hk5 : k = 5
  rotate_left
  ·have e2 : (k != 5) = true := by simp [hk5]
   rw [if_pos hk5] at hZ
   (refine AX.run0 (And.intro e1 e2) ?_)
   exact ⟨_, le_refl _, by rw [← hZ]; rfl⟩
  have e2 : (k != 5) = false := by simp [hk5]
  rw [if_neg (by simp [hk5])] at hZ
  (refine AX.run0 (And.intro e1 e2) ?_)
  refine use (cn _) ?_
  cases N
  ·rw [if_pos (by simp)] at hZ
   (refine AX.run0 True.intro ?_)
   exact ⟨_, le_refl _, by rw [← hZ]; rfl⟩
  rw [if_neg (by simp)] at hZ
  by_cases v0 : v < 1
  ·rw [if_pos (.inl v0)] at hZ
   (refine AX.run0 v0 ?_)
   exact ⟨_, le_refl _, by rw [← hZ]; rfl⟩
  by_cases v1 : v > 9007199254740992
  ·rw [if_pos (.inr v1)] at hZ
   (refine AX.run0 (And.intro v0 v1) ?_)
   exact ⟨_, le_refl _, by rw [← hZ]; rfl⟩
  rw [if_neg (by omega)] at hZ
  (refine AX.run0 (And.intro v0 v1) ?_)
  refine use (cs _) ?_
  cases S
  ·rw [if_pos (by simp)] at hZ
   (refine AX.run0 True.intro ?_)
   exact ⟨_, le_refl _, by rw [← hZ]; rfl⟩
  ·rw [if_neg (by simp)] at hZ
   (refine AX.run0 True.intro ?_)
   exact ⟨_, le_refl _, by rw [← hZ]; rfl⟩
end AX
end Go.Proofs.YtnjkemakcejceaaGreatDoor

namespace Go.Proofs.YtnjkemakcejceaaGreatDoor
open Go.RowKit
open Go.Op (bytesLess)
set_option maxHeartbeats 4000000
namespace AX
def c_cmpor : AX.AFn := ⟨18, .seq (.reg false [⟨some 2, .mv (.c (.int .i64 0)), none, []⟩]) (.seq (.reg false [⟨some 3, .mv (.c (.int .i64 0)), none, []⟩]) (.seq (.seq (.reg false [⟨some 6, .mv (.t 0), none, []⟩, ⟨some 7, .len false (.t 6), none, []⟩, ⟨some 8, .mv (.c (.int .i64 0)), none, []⟩]) (.block 0 (.loop (.seq (.reg false [⟨some 9, .bin .lss (.t 8) (.t 7), none, []⟩]) (.seq (.cond (.t 9) (.skip) (.exit 0)) (.seq (.block 1 (.seq (.reg false [⟨some 10, .iaddr 1 (.t 6) (.t 8), none, []⟩, ⟨some 11, .load false 1 (.t 10), none, []⟩, ⟨some 5, .mv (.t 11), none, []⟩]) (.seq (.reg false [⟨some 12, .mv (.t 5), none, []⟩, ⟨some 13, .mv (.t 3), none, []⟩, ⟨some 14, .bin .neq (.t 12) (.t 13), none, []⟩]) (.cond (.t 14) (.seq (.reg false [⟨some 15, .mv (.t 5), none, []⟩, ⟨some 2, .mv (.t 15), none, []⟩]) (.ret)) (.skip))))) (.reg false [⟨some 16, .bin .add (.t 8) (.c (.int .i64 1)), none, []⟩, ⟨some 8, .mv (.t 16), none, []⟩]))))))) (.seq (.reg false [⟨some 17, .mv (.t 3), none, []⟩, ⟨some 2, .mv (.t 17), none, []⟩]) (.ret)))), [.t 2]⟩
theorem h_cmpor : AX.compFn Tryz.prog 79 = some c_cmpor := by kernel_rfl
def c_pcompare : AX.AFn := ⟨17, .seq (.reg false [⟨some 2, .box 91 (.t 0), none, []⟩, ⟨some 3, .box 91 (.t 1), none, []⟩, ⟨some 4, .mv (.c (.int .i64 0)), none, []⟩]) (.seq (.reg true [⟨some 5, .faddr 0 (.t 2), none, []⟩, ⟨some 6, .load false 1 (.t 5), none, [0]⟩, ⟨some 7, .faddr 0 (.t 3), none, []⟩, ⟨some 8, .load false 1 (.t 7), none, [2]⟩, ⟨some 9, .call 80 [.t 6, .t 8], none, [1, 3]⟩, ⟨some 10, .faddr 1 (.t 2), none, []⟩, ⟨some 11, .load false 1 (.t 10), none, [5]⟩, ⟨some 12, .faddr 1 (.t 3), none, []⟩, ⟨some 13, .load false 1 (.t 12), none, [7]⟩, ⟨some 14, .call 80 [.t 11, .t 13], none, [6, 8, 4]⟩, ⟨some 15, .mks 1 [.t 9, .t 14], none, [4, 9]⟩, ⟨some 16, .call 79 [.t 15], none, [10, 9]⟩, ⟨some 4, .mv (.t 16), none, [11, 11, 0, 1, 2, 3, 4, 5, 6, 7, 8, 9, 10, 11]⟩]) (.ret)), [.t 4]⟩
theorem h_pcompare : AX.compFn Tryz.prog 42 = some c_pcompare := by kernel_rfl
theorem a_or (a b : Int) (h : Hp) : ACall Tryz.prog GT 79 [.sl 1 .no [[.int .i64 a], [.int .i64 b]]] h fun r h' => r = .int .i64 (if a ≠ 0 then a else b) ∧ h' = h := by
 refine pcall ?_ rfl (by simp [A.pure, A.data]) h
 refine acall_of mixedT h_cmpor (by simp [c_cmpor]) ?_
 dsimp only [c_cmpor]
 (refine AX.run0 True.intro ?_)
 have ew0 : IntKind.i64.wrap ((0 : Int) + 1) = 1 := by decide
 have ew1 : IntKind.i64.wrap ((1 : Int) + 1) = 2 := by decide
 have en1 : Int.toNat 1 = 1 := rfl
 have lt0 : (0 : Int) < ((2 : Nat) : Int) := by decide
 have lt1 : (1 : Int) < ((2 : Nat) : Int) := by decide
 have lt2 : ¬ (2 : Int) < ((2 : Nat) : Int) := by decide
 have le1 : (0 : Int) ≤ 1 := by decide
 refine awp_loop (fun mm ts h => h = ⟨[], []⟩ ∧ ts 3 = .int .i64 0 ∧ ts 6 = .sl 1 .no [[.int .i64 a], [.int .i64 b]] ∧ ts 7 = .int .i64 ((2 : Nat) : Int) ∧ ((mm = 2 ∧ ts 8 = .int .i64 0) ∨ (mm = 1 ∧ ts 8 = .int .i64 1 ∧ a = 0) ∨ (mm = 0 ∧ ts 8 = .int .i64 2 ∧ a = 0 ∧ b = 0))) 2 ?_ ?_
 ·exact ⟨rfl, by (exact AX.ev0 True.intro), by (exact AX.ev0 True.intro), by (exact AX.ev0 True.intro), .inl ⟨rfl, by (exact AX.ev0 True.intro)⟩⟩
 rintro mm ts h ⟨rfl, t3, t6, t7, ⟨rfl, t8⟩ | ⟨rfl, t8, ha⟩ | ⟨rfl, t8, ha, hb⟩⟩
 ·by_cases ha : a = 0
  ·have e1 : (a != 0) = false := by simp [ha]
   (refine AX.run0 (And.intro t3 (And.intro t6 (And.intro t7 (And.intro t8 (And.intro e1 (And.intro ew0 lt0)))))) ?_)
   exact ⟨1, by omega, rfl, by (exact AX.ev0 t3), by (exact AX.ev0 t6), by (exact AX.ev0 t7), .inr (.inl ⟨rfl, by (exact AX.ev0 ew0), ha⟩)⟩
  ·have e1 : (a != 0) = true := by simp [ha]
   (refine AX.run0 (And.intro t3 (And.intro t6 (And.intro t7 (And.intro t8 (And.intro e1 lt0))))) ?_)
   exact ⟨_, le_refl _, by rw [if_pos ha]; rfl⟩
 ·by_cases hb : b = 0
  ·have e1 : (b != 0) = false := by simp [hb]
   (refine AX.run0 (And.intro t3 (And.intro t6 (And.intro t7 (And.intro t8 (And.intro e1 (And.intro ew1 (And.intro en1 (And.intro lt1 le1)))))))) ?_)
   exact ⟨0, by omega, rfl, by (exact AX.ev0 t3), by (exact AX.ev0 t6), by (exact AX.ev0 t7), .inr (.inr ⟨rfl, by (exact AX.ev0 ew1), ha, hb⟩)⟩
  ·have e1 : (b != 0) = true := by simp [hb]
   (refine AX.run0 (And.intro t3 (And.intro t6 (And.intro t7 (And.intro t8 (And.intro e1 (And.intro en1 (And.intro lt1 le1))))))) ?_)
   exact ⟨_, le_refl _, by rw [if_neg (by simp [ha])]; rfl⟩
 ·(refine AX.run0 (And.intro t3 (And.intro t6 (And.intro t7 (And.intro t8 lt2)))) ?_)
  exact ⟨_, le_refl _, by rw [if_neg (by simp [ha]), hb]; rfl⟩
def cmp2 (a b c d : List UInt8) : Int := if cmpZ a c ≠ 0 then cmpZ a c else cmpZ b d
theorem a_compare (L : Leafs) (a b c d : List UInt8) (h : Hp) : ACall Tryz.prog GT 42 [.agg [.str a, .str b], .agg [.str c, .str d]] h fun r h' => r = .int .i64 (cmp2 a b c d) ∧ h' = h := by
 refine pcall ?_ rfl (by simp [A.pure, A.data]) h
 refine acall_of mixedT h_pcompare (by simp [c_pcompare]) ?_
 dsimp only [c_pcompare]
 (refine AX.run0 True.intro ?_)
 refine use (L.cmp a c _) ?_
 (refine AX.run0 True.intro ?_)
 refine use (L.cmp b d _) ?_
 (refine AX.run0 True.intro ?_)
 refine use (a_or (cmpZ a c) (cmpZ b d) _) ?_
 (refine AX.run0 True.intro ?_)
 exact ⟨_, le_refl _, rfl⟩
theorem cmp2_ge (x y : Sf.Inst) : (cmp2 x.addr x.dep y.addr y.dep ≥ 0) ↔ Sf.behind x y = false := by
 unfold cmp2 Sf.behind cmpZ
 by_cases h1 : x.addr = y.addr
 ·have irr : bytesLess y.addr y.addr = false := by
   have := Val.less_total y.addr y.addr
   cases h : bytesLess y.addr y.addr
   ·rfl
   ·rw [h] at this; simp at this
  rw [h1, irr]
  by_cases h2 : x.dep = y.dep
  ·have irr2 : bytesLess y.dep y.dep = false := by
    have := Val.less_total y.dep y.dep
    cases h : bytesLess y.dep y.dep
    ·rfl
    ·rw [h] at this; simp at this
   simp [h2, irr2]
  ·cases h3 : bytesLess x.dep y.dep <;> simp [h2]
 ·cases h3 : bytesLess x.addr y.addr <;> simp [h1]
end AX
end Go.Proofs.YtnjkemakcejceaaGreatDoor

namespace Go.Proofs.YtnjkemakcejceaaGreatDoor
open Go.RowKit
open Go.Op (bytesLess)
set_option maxHeartbeats 4000000
namespace AX
structure Sf.StIn (s : Sf.St) : Prop where
 lin : s.lin.length ≤ 2000000
 insts : ∀ x ∈ s.insts, Sf.InstIn x
 pends : ∀ x ∈ s.pends, x.addr.length ≤ 2000000 ∧ x.tok.length ≤ 2000000
 outs : ∀ x ∈ s.outs, x.name.length ≤ 2000000 ∧ x.value.lens
 li : s.insts.length ≤ 1000000000
 lp : s.pends.length ≤ 1000000000
 lo : s.outs.length ≤ 1000000000
theorem a_scheck (L : Leafs) (st : Sf.St) (ok : Sf.StIn st) : SCheck st := by
 intro h
 obtain ⟨lin, ser, ins, ps, os⟩ := st
 have ct := fun h => L.text lin ok.lin h
 have li : ins.length ≤ 1000000000 := ok.li
 have lp : ps.length ≤ 1000000000 := ok.lp
 have lo : os.length ≤ 1000000000 := ok.lo
 have lm1 : (ins.map Sf.Inst.cells).length = ins.length := List.length_map _
 have lm2 : (ps.map Sf.Pend.cells).length = ps.length := List.length_map _
 have lm3 : (os.map Sf.Outp.cells).length = os.length := List.length_map _
 obtain ⟨Z, hZ⟩ : ∃ Z, Sf.checkZ ⟨lin, ser, ins, ps, os⟩ = Z := ⟨_, rfl⟩
 rw [hZ]
 unfold Sf.checkZ at hZ
 dsimp only at hZ
 refine pcall ?_ rfl (by simp [A.pure, A.data, Sf.St.A]) h
 refine acall_of mixedT h_scheck (by simp [c_scheck]) ?_
 dsimp only [c_scheck, Sf.St.A]
 (refine AX.run0 True.intro ?_)
 refine use (ct _) ?_
 cases hT : Sf.text lin
 ·rw [hT, if_pos (by decide)] at hZ
  subst hZ
  (refine AX.run0 True.intro ?_)
  exact ⟨_, le_refl _, rfl⟩
 rw [hT, if_neg (by decide)] at hZ
 by_cases s0 : ser < 0
 ·rw [if_pos (.inl s0)] at hZ
  subst hZ
  (refine AX.run0 s0 ?_)
  exact ⟨_, le_refl _, rfl⟩
 by_cases s1 : ser > 9007199254740992
 ·rw [if_pos (.inr s1)] at hZ
  subst hZ
  (refine AX.run0 (And.intro s0 s1) ?_)
  exact ⟨_, le_refl _, rfl⟩
 rw [if_neg (by omega)] at hZ
 obtain ⟨mx, hmx⟩ : ∃ mx : Int, (if (os.length : Int) > (if (ps.length : Int) > (ins.length : Int) then (ps.length : Int) else (ins.length : Int)) then (os.length : Int) else (if (ps.length : Int) > (ins.length : Int) then (ps.length : Int) else (ins.length : Int))) = mx := ⟨_, rfl⟩
 have hm5 : mx > 512 ↔ (512 < ins.length ∨ 512 < ps.length ∨ 512 < os.length) := by
  rw [← hmx]; split <;> split <;> omega
 by_cases hm : mx > 512
 ·rw [if_pos (hm5.1 hm)] at hZ
  subst hZ
  (refine AX.run0 (And.intro s0 (And.intro s1 (And.intro lm1 (And.intro lm2 (And.intro lm3 (And.intro hmx hm)))))) ?_)
  exact ⟨_, le_refl _, rfl⟩
 rw [if_neg (fun e => hm (hm5.2 e))] at hZ
 obtain ⟨I, hI⟩ : ∃ I, Sf.instsZ none ins = I := ⟨_, rfl⟩
 obtain ⟨P, hP⟩ : ∃ P, Sf.pendsZ none ps = P := ⟨_, rfl⟩
 obtain ⟨O, hO⟩ : ∃ O, Sf.outsZ none os = O := ⟨_, rfl⟩
 have fi1 : ∀ z, z ≠ 0 → z = I → Z = z := fun z h e => by rw [hI, ← e, if_pos h] at hZ; exact hZ.symm
 have fi2 : I = 0 → (if P ≠ 0 then P else O) = Z := fun e => by rw [hI, hP, hO, e, if_neg (by simp)] at hZ; exact hZ
 (refine AX.run0 (And.intro s0 (And.intro s1 (And.intro lm1 (And.intro lm2 (And.intro lm3 (And.intro hmx hm)))))) ?_)
 refine awp_loop (fun mm ts h => ∃ (j : Nat) (l : List Blk), mm = ins.length - j ∧ j ≤ ins.length ∧ h = ⟨.cells 26 [.str lin, .int .i64 ser, .sl 13 .no (ins.map Sf.Inst.cells), .sl 3 .no (ps.map Sf.Pend.cells), .sl 7 .no (os.map Sf.Outp.cells)] :: l, []⟩ ∧ Sf.instsZ (if j = 0 then none else ins[j - 1]?) (ins.drop j) = I ∧ ts 1 = .ptr 0 0 ∧ ts 35 = .sl 13 .no (ins.map Sf.Inst.cells) ∧ ts 36 = .int .i64 (ins.length : Nat) ∧ ts 37 = .int .i64 (j : Nat)) ins.length ?_ ?_
 ·exact ⟨0, [], by omega, by omega, rfl, hI, by (exact AX.ev0 True.intro), by (exact AX.ev0 True.intro), by (exact AX.ev0 (And.intro lm1 (And.intro lm2 lm3))), by (exact AX.inv0 True.intro)⟩
 rintro mm ts h ⟨j, l, rfl, hjc, rfl, hit, t1, ta, tb, tc⟩
 by_cases hj : j < ins.length
 ·have hlt : (j : Int) < (ins.length : Int) := by omega
  have hlt' : (j : Int) < ((ins.map Sf.Inst.cells).length : Int) := by rw [List.length_map]; exact hlt
  have hj0 : (0 : Int) ≤ (j : Int) := by omega
  have ei : IntKind.i64.wrap ((j : Int) + 1) = ((j + 1 : Nat) : Int) := by rw [wrap64 (by omega) (by omega)]; omega
  have hg := map_getD Sf.Inst.cells ins j hj
  have hm := List.getElem_mem hj
  rw [List.drop_eq_getElem_cons hj] at hit
  obtain ⟨x, hx⟩ : ∃ x, ins[j] = x := ⟨_, rfl⟩
  rw [hx] at hit hg hm
  have ci := fun h => a_instance L x (ok.insts x hm) h
  have cp := fun h => a_placeOf x h
  have hxj : ins[j]? = some x := by rw [List.getElem?_eq_getElem hj, hx]
  have hx2 : ∃ x2, x = x2 := ⟨_, rfl⟩
  unfold Sf.instsZ at hit
  obtain ⟨Z1, hZ1⟩ : ∃ z, Sf.instZ x = z := ⟨_, rfl⟩
  rw [hZ1] at ci hit
  have cge := fun y => cmp2_ge y x
  have cc := fun (y : Sf.Inst) h => a_compare L y.addr y.dep x.addr x.dep h
  have nx : Sf.instsZ (some x) (ins.drop (j + 1)) = I → Sf.instsZ (if j + 1 = 0 then none else ins[j + 1 - 1]?) (ins.drop (j + 1)) = I := fun e => by rw [if_neg (by omega), Nat.add_sub_cancel, hxj]; exact e
  clear hx2 hm hZ1
  have cells : ∃ a d id ty k n s is ks v tn fi ds, x = ⟨a, d, id, ty, .mk k n s is ks, v, tn, fi, ds⟩ := by obtain ⟨a, d, id, ty, ⟨k, n, s, is, ks⟩, v, tn, fi, ds⟩ := x; exact ⟨_, _, _, _, _, _, _, _, _, _, _, _, _, rfl⟩
  obtain ⟨a, d, id, ty, k, n, s, is, ks, v, tn, fi, ds, hxe⟩ := cells
  have hxc : x.cells = [.str a, .str d, .str id, .str ty, .int .i64 k, .int .i64 n, .str s, .sl 5 .no (V.cellss is), .sl 1 .no (strsA ks), .int .i64 v, .bool tn, .bool fi, .sl 1 .no (strsA ds)] := by rw [hxe]; rfl
  rw [hxc] at ci cp hg
  (refine AX.run0 (And.intro t1 (And.intro ta (And.intro tb (And.intro tc (And.intro hlt (And.intro hg (And.intro hlt' hj0))))))) ?_)
  refine use (ci _) ?_
  by_cases hz : Z1 = 0
  rotate_left
  ·have e1 : (Z1 != 0) = true := by simp [hz]
   rw [if_pos hz] at hit
   have hZf := fi1 Z1 hz hit
   (refine AX.run0 (And.intro t1 (And.intro ta (And.intro tb (And.intro tc e1)))) ?_)
   exact ⟨_, le_refl _, by rw [hZf]; rfl⟩
  have e1 : (Z1 != 0) = false := by simp [hz]
  rw [if_neg (by simp [hz])] at hit
  cases j with
  | zero =>
   have h0 : ¬ ((0 : Nat) : Int) > 0 := by omega
   simp only [if_true, Bool.false_eq_true, if_false] at hit
   (refine AX.run0 (And.intro t1 (And.intro ta (And.intro tb (And.intro tc (And.intro e1 (And.intro h0 ei)))))) ?_)
   exact ⟨ins.length - (0 + 1), by omega, 0 + 1, l ++ [.cells 42 [.str a, .str d, .str id, .str ty, .int .i64 k, .int .i64 n, .str s, .sl 5 .no (V.cellss is), .sl 1 .no (strsA ks), .int .i64 v, .bool tn, .bool fi, .sl 1 .no (strsA ds)]], rfl, by omega, rfl, nx hit, by (exact AX.ev0 t1), by (exact AX.ev0 ta), by (exact AX.ev0 tb), by (exact AX.ev0 ei)⟩
  | succ i =>
   have h0 : ((i + 1 : Nat) : Int) > 0 := by omega
   have ej : IntKind.i64.wrap (((i + 1 : Nat) : Int) - 1) = (i : Int) := by rw [wrap64 (by omega) (by omega)]; omega
   have hg2 := map_getD Sf.Inst.cells ins i (by omega)
   have hi' : (i : Int) < ((ins.map Sf.Inst.cells).length : Int) := by rw [List.length_map]; omega
   have hi0 : (0 : Int) ≤ (i : Int) := by omega
   have hki : ins[i + 1 - 1]? = some (ins[i]'(by omega)) := List.getElem?_eq_getElem (by omega)
   rw [show (if i + 1 = 0 then none else ins[i + 1 - 1]?) = (some (ins[i]'(by omega))) from by rw [if_neg (by omega), hki]] at hit
   obtain ⟨y, hy⟩ : ∃ y, ins[i]'(by omega) = y := ⟨_, rfl⟩
   rw [hy] at hit hg2
   dsimp only at hit
   have cpy := fun h => a_placeOf y h
   have hyc : ∃ b1 b2 b3 b4 b5 b6 b7 b8 b9 c1 c2 c3 c4, y.cells = [.str b1, .str b2, .str b3, .str b4, .int .i64 b5, .int .i64 b6, .str b7, .sl 5 .no (V.cellss b8), .sl 1 .no (strsA b9), .int .i64 c1, .bool c2, .bool c3, .sl 1 .no (strsA c4)] := by obtain ⟨a, d, id, ty, ⟨k, n, s, is, ks⟩, v, tn, fi, ds⟩ := y; exact ⟨_, _, _, _, _, _, _, _, _, _, _, _, _, rfl⟩
   obtain ⟨b1, b2, b3, b4, b5, b6, b7, b8, b9, c1, c2, c3, c4, hyc⟩ := hyc
   rw [hyc] at hg2 cpy
   have cg := cge y
   have cy := cc y
   obtain ⟨c, hc⟩ : ∃ c, cmp2 y.addr y.dep x.addr x.dep = c := ⟨_, rfl⟩
   rw [hc] at cg cy
   (refine AX.run0 (And.intro t1 (And.intro ta (And.intro tb (And.intro tc (And.intro e1 (And.intro h0 (And.intro ej (And.intro hg2 (And.intro hi' hi0))))))))) ?_)
   refine use (cpy _) ?_
   (refine AX.run0 (And.intro t1 (And.intro ta (And.intro tb tc))) ?_)
   refine use (cp _) ?_
   (refine AX.run0 (And.intro t1 (And.intro ta (And.intro tb tc))) ?_)
   refine use (cy _) ?_
   by_cases hcz : c ≥ 0
   ·simp only [cg.1 hcz, Bool.not_false, if_true] at hit
    have hZf := fi1 1 (by decide) hit
    (refine AX.run0 (And.intro t1 (And.intro ta (And.intro tb (And.intro tc hcz)))) ?_)
    exact ⟨_, le_refl _, by rw [hZf]; rfl⟩
   ·have hb : Sf.behind y x = true := by cases hb : Sf.behind y x; exact absurd (cg.2 hb) hcz; rfl
    simp only [hb, Bool.not_true, Bool.false_eq_true, if_false] at hit
    (refine AX.run0 (And.intro t1 (And.intro ta (And.intro tb (And.intro tc (And.intro hcz ei))))) ?_)
    exact ⟨ins.length - ((i + 1) + 1), by omega, (i + 1) + 1, l ++ [.cells 42 [.str a, .str d, .str id, .str ty, .int .i64 k, .int .i64 n, .str s, .sl 5 .no (V.cellss is), .sl 1 .no (strsA ks), .int .i64 v, .bool tn, .bool fi, .sl 1 .no (strsA ds)]], rfl, by omega, rfl, nx hit, by (exact AX.ev0 t1), by (exact AX.ev0 ta), by (exact AX.ev0 tb), by (exact AX.ev0 ei)⟩
 have hlt : ¬ ((j : Int) < (ins.length : Int)) := by omega
 rw [List.drop_eq_nil_of_le (by omega)] at hit
 unfold Sf.instsZ at hit
 have fi2 := fi2 hit.symm
 (refine AX.run0 (And.intro t1 (And.intro ta (And.intro tb (And.intro tc (And.intro hlt (And.intro lm1 (And.intro lm2 lm3))))))) ?_)
 clear hit hlt hjc ta tb tc fi1
 have fj1 : ∀ z, z ≠ 0 → z = P → Z = z := fun z h e => by rw [← e, if_pos h] at fi2; exact fi2.symm
 have fj2 : P = 0 → Z = O := fun e => by rw [e, if_neg (by simp)] at fi2; exact fi2.symm
 obtain ⟨l0, hl0⟩ : ∃ l0 : List Blk, l = l0 := ⟨_, rfl⟩
 refine awp_loop (fun mm ts h => ∃ (j : Nat) (l : List Blk), mm = ps.length - j ∧ j ≤ ps.length ∧ h = ⟨.cells 26 [.str lin, .int .i64 ser, .sl 13 .no (ins.map Sf.Inst.cells), .sl 3 .no (ps.map Sf.Pend.cells), .sl 7 .no (os.map Sf.Outp.cells)] :: l, []⟩ ∧ Sf.pendsZ (if j = 0 then none else ps[j - 1]?.map Sf.Pend.tok) (ps.drop j) = P ∧ ts 1 = .ptr 0 0 ∧ ts 64 = .sl 3 .no (ps.map Sf.Pend.cells) ∧ ts 65 = .int .i64 (ps.length : Nat) ∧ ts 66 = .int .i64 (j : Nat)) ps.length ?_ ?_
 ·exact ⟨0, l, by omega, by omega, rfl, hP, by (exact AX.ev0 t1), by (exact AX.ev0 t1), by (exact AX.ev0 (And.intro t1 (And.intro lm1 (And.intro lm2 lm3)))), by (exact AX.inv0 t1)⟩
 rintro mm ts h ⟨j, l, rfl, hjc, rfl, hit, t1, ta, tb, tc⟩
 by_cases hj : j < ps.length
 ·have hlt : (j : Int) < (ps.length : Int) := by omega
  have hlt' : (j : Int) < ((ps.map Sf.Pend.cells).length : Int) := by rw [List.length_map]; exact hlt
  have hj0 : (0 : Int) ≤ (j : Int) := by omega
  have ei : IntKind.i64.wrap ((j : Int) + 1) = ((j + 1 : Nat) : Int) := by rw [wrap64 (by omega) (by omega)]; omega
  have hg := map_getD Sf.Pend.cells ps j hj
  have hm := List.getElem_mem hj
  rw [List.drop_eq_getElem_cons hj] at hit
  obtain ⟨x, hx⟩ : ∃ x, ps[j] = x := ⟨_, rfl⟩
  rw [hx] at hit hg hm
  have hin := ok.pends x hm
  have ct := fun h => L.text x.tok hin.2 h
  have cm := fun h => a_managed L x.addr x.typ hin.1 h
  have hxj : ps[j]? = some x := by rw [List.getElem?_eq_getElem hj, hx]
  unfold Sf.pendsZ Sf.pendB at hit
  have nx : Sf.pendsZ (some x.tok) (ps.drop (j + 1)) = P → Sf.pendsZ (if j + 1 = 0 then none else ps[j + 1 - 1]?.map Sf.Pend.tok) (ps.drop (j + 1)) = P := fun e => by rw [if_neg (by omega), Nat.add_sub_cancel, hxj]; exact e
  simp only [Sf.Pend.cells] at hg
  obtain ⟨T, hT⟩ : ∃ T, Sf.text x.tok = T := ⟨_, rfl⟩
  rw [hT] at ct hit
  obtain ⟨M, hM⟩ : ∃ M, Sf.managed x.addr x.typ = M := ⟨_, rfl⟩
  rw [hM] at cm hit
  (refine AX.run0 (And.intro t1 (And.intro ta (And.intro tb (And.intro tc (And.intro hlt (And.intro hg (And.intro hlt' hj0))))))) ?_)
  refine use (ct _) ?_
  cases T
  ·rw [if_pos (by simp)] at hit
   have hZf := fj1 1 (by decide) hit
   (refine AX.run0 (And.intro t1 (And.intro ta (And.intro tb tc))) ?_)
   exact ⟨_, le_refl _, by rw [hZf]; rfl⟩
  (refine AX.run0 (And.intro t1 (And.intro ta (And.intro tb tc))) ?_)
  refine use (cm _) ?_
  cases M
  ·rw [if_pos (by simp)] at hit
   have hZf := fj1 1 (by decide) hit
   (refine AX.run0 (And.intro t1 (And.intro ta (And.intro tb tc))) ?_)
   exact ⟨_, le_refl _, by rw [hZf]; rfl⟩
  cases j with
  | zero =>
   have h0 : ¬ ((0 : Nat) : Int) > 0 := by omega
   rw [if_neg (by simp [Val.badB])] at hit
   (refine AX.run0 (And.intro t1 (And.intro ta (And.intro tb (And.intro tc (And.intro h0 ei))))) ?_)
   exact ⟨ps.length - (0 + 1), by omega, 0 + 1, l ++ [.cells 95 [.str x.addr, .str x.typ, .str x.tok]], rfl, by omega, rfl, nx hit, by (exact AX.ev0 t1), by (exact AX.ev0 ta), by (exact AX.ev0 tb), by (exact AX.ev0 ei)⟩
  | succ i =>
   have h0 : ((i + 1 : Nat) : Int) > 0 := by omega
   have ej : IntKind.i64.wrap (((i + 1 : Nat) : Int) - 1) = (i : Int) := by rw [wrap64 (by omega) (by omega)]; omega
   have hg2 := map_getD Sf.Pend.cells ps i (by omega)
   have hi' : (i : Int) < ((ps.map Sf.Pend.cells).length : Int) := by rw [List.length_map]; omega
   have hi0 : (0 : Int) ≤ (i : Int) := by omega
   have hki : ps[i + 1 - 1]? = some (ps[i]'(by omega)) := List.getElem?_eq_getElem (by omega)
   rw [show (if i + 1 = 0 then none else ps[i + 1 - 1]?.map Sf.Pend.tok) = (some (ps[i]'(by omega))).map Sf.Pend.tok from by rw [if_neg (by omega), hki]] at hit
   obtain ⟨y, hy⟩ : ∃ y, ps[i]'(by omega) = y := ⟨_, rfl⟩
   rw [hy] at hit hg2
   simp only [Sf.Pend.cells] at hg2
   simp only [Option.map_some, Val.badB] at hit
   cases hb : bytesLess y.tok x.tok
   ·simp only [hb, Bool.true_and, Bool.and_true, Bool.not_true, Bool.not_false, Bool.false_or, Bool.true_or, if_true] at hit
    have hZf := fj1 1 (by decide) hit
    (refine AX.run0 (And.intro t1 (And.intro ta (And.intro tb (And.intro tc (And.intro h0 (And.intro ej (And.intro hg2 (And.intro hi' (And.intro hi0 hb))))))))) ?_)
    exact ⟨_, le_refl _, by rw [hZf]; rfl⟩
   ·simp only [hb, Bool.true_and, Bool.and_true, Bool.not_true, Bool.not_false, Bool.false_or, Bool.or_false, Bool.false_eq_true, if_false] at hit
    (refine AX.run0 (And.intro t1 (And.intro ta (And.intro tb (And.intro tc (And.intro h0 (And.intro ej (And.intro hg2 (And.intro hi' (And.intro hi0 (And.intro hb ei)))))))))) ?_)
    exact ⟨ps.length - ((i + 1) + 1), by omega, (i + 1) + 1, l ++ [.cells 95 [.str x.addr, .str x.typ, .str x.tok]], rfl, by omega, rfl, nx hit, by (exact AX.ev0 t1), by (exact AX.ev0 ta), by (exact AX.ev0 tb), by (exact AX.ev0 ei)⟩
 have hlt : ¬ ((j : Int) < (ps.length : Int)) := by omega
 rw [List.drop_eq_nil_of_le (by omega)] at hit
 unfold Sf.pendsZ at hit
 have fj2 := fj2 hit.symm
 (refine AX.run0 (And.intro t1 (And.intro ta (And.intro tb (And.intro tc (And.intro hlt (And.intro lm1 (And.intro lm2 lm3))))))) ?_)
 clear hit hlt hjc ta tb tc fj1 hl0 l0
 refine awp_loop (fun mm ts h => ∃ (j : Nat) (l : List Blk), mm = os.length - j ∧ j ≤ os.length ∧ h = ⟨.cells 26 [.str lin, .int .i64 ser, .sl 13 .no (ins.map Sf.Inst.cells), .sl 3 .no (ps.map Sf.Pend.cells), .sl 7 .no (os.map Sf.Outp.cells)] :: l, []⟩ ∧ Sf.outsZ (if j = 0 then none else os[j - 1]?.map Sf.Outp.name) (os.drop j) = O ∧ ts 1 = .ptr 0 0 ∧ ts 101 = .sl 7 .no (os.map Sf.Outp.cells) ∧ ts 102 = .int .i64 (os.length : Nat) ∧ ts 103 = .int .i64 (j : Nat)) os.length ?_ ?_
 ·exact ⟨0, l, by omega, by omega, rfl, hO, by (exact AX.ev0 t1), by (exact AX.ev0 t1), by (exact AX.ev0 (And.intro t1 (And.intro lm1 (And.intro lm2 lm3)))), by (exact AX.inv0 t1)⟩
 rintro mm ts h ⟨j, l, rfl, hjc, rfl, hit, t1, ta, tb, tc⟩
 by_cases hj : j < os.length
 ·have hlt : (j : Int) < (os.length : Int) := by omega
  have hlt' : (j : Int) < ((os.map Sf.Outp.cells).length : Int) := by rw [List.length_map]; exact hlt
  have hj0 : (0 : Int) ≤ (j : Int) := by omega
  have ei : IntKind.i64.wrap ((j : Int) + 1) = ((j + 1 : Nat) : Int) := by rw [wrap64 (by omega) (by omega)]; omega
  have hg := map_getD Sf.Outp.cells os j hj
  have hm := List.getElem_mem hj
  rw [List.drop_eq_getElem_cons hj] at hit
  obtain ⟨x, hx⟩ : ∃ x, os[j] = x := ⟨_, rfl⟩
  rw [hx] at hit hg hm
  have hin := ok.outs x hm
  have ci := fun h => a_output L x hin.1 hin.2 h
  have hxj : os[j]? = some x := by rw [List.getElem?_eq_getElem hj, hx]
  unfold Sf.outsZ at hit
  have nx : Sf.outsZ (some x.name) (os.drop (j + 1)) = O → Sf.outsZ (if j + 1 = 0 then none else os[j + 1 - 1]?.map Sf.Outp.name) (os.drop (j + 1)) = O := fun e => by rw [if_neg (by omega), Nat.add_sub_cancel, hxj]; exact e
  obtain ⟨Z1, hZ1⟩ : ∃ z, Sf.outZ x = z := ⟨_, rfl⟩
  rw [hZ1] at ci hit
  clear hZ1
  obtain ⟨m, ⟨k, n, s, is, ks⟩, b⟩ := x
  simp only [Sf.Outp.cells] at hg ci
  dsimp only at hit nx
  (refine AX.run0 (And.intro t1 (And.intro ta (And.intro tb (And.intro tc (And.intro hlt (And.intro hg (And.intro hlt' hj0))))))) ?_)
  refine use (ci _) ?_
  by_cases hz : Z1 = 0
  rotate_left
  ·have e1 : (Z1 != 0) = true := by simp [hz]
   rw [if_pos hz] at hit
   (refine AX.run0 (And.intro t1 (And.intro ta (And.intro tb (And.intro tc e1)))) ?_)
   exact ⟨_, le_refl _, by rw [fj2, ← hit]; rfl⟩
  have e1 : (Z1 != 0) = false := by simp [hz]
  rw [if_neg (by simp [hz])] at hit
  cases j with
  | zero =>
   have h0 : ¬ ((0 : Nat) : Int) > 0 := by omega
   rw [if_neg (by simp [Val.badB])] at hit
   (refine AX.run0 (And.intro t1 (And.intro ta (And.intro tb (And.intro tc (And.intro e1 (And.intro h0 ei)))))) ?_)
   exact ⟨os.length - (0 + 1), by omega, 0 + 1, l ++ [.cells 98 [.str m, .int .i64 k, .int .i64 n, .str s, .sl 5 .no (V.cellss is), .sl 1 .no (strsA ks), .bool b]], rfl, by omega, rfl, nx hit, by (exact AX.ev0 t1), by (exact AX.ev0 ta), by (exact AX.ev0 tb), by (exact AX.ev0 ei)⟩
  | succ i =>
   have h0 : ((i + 1 : Nat) : Int) > 0 := by omega
   have ej : IntKind.i64.wrap (((i + 1 : Nat) : Int) - 1) = (i : Int) := by rw [wrap64 (by omega) (by omega)]; omega
   have hg2 := map_getD Sf.Outp.cells os i (by omega)
   have hi' : (i : Int) < ((os.map Sf.Outp.cells).length : Int) := by rw [List.length_map]; omega
   have hi0 : (0 : Int) ≤ (i : Int) := by omega
   have hki : os[i + 1 - 1]? = some (os[i]'(by omega)) := List.getElem?_eq_getElem (by omega)
   rw [show (if i + 1 = 0 then none else os[i + 1 - 1]?.map Sf.Outp.name) = (some (os[i]'(by omega))).map Sf.Outp.name from by rw [if_neg (by omega), hki]] at hit
   obtain ⟨y, hy⟩ : ∃ y, os[i]'(by omega) = y := ⟨_, rfl⟩
   rw [hy] at hit hg2
   obtain ⟨m2, ⟨k2, n2, s2, is2, ks2⟩, b2⟩ := y
   simp only [Sf.Outp.cells] at hg2
   simp only [Option.map_some, Val.badB] at hit
   cases hb : bytesLess m2 m
   ·simp only [hb, Bool.true_and, Bool.and_true, Bool.not_true, Bool.not_false, Bool.false_or, Bool.true_or, if_true] at hit
    (refine AX.run0 (And.intro t1 (And.intro ta (And.intro tb (And.intro tc (And.intro e1 (And.intro h0 (And.intro ej (And.intro hg2 (And.intro hi' (And.intro hi0 hb)))))))))) ?_)
    exact ⟨_, le_refl _, by rw [fj2, ← hit]; rfl⟩
   ·simp only [hb, Bool.true_and, Bool.and_true, Bool.not_true, Bool.not_false, Bool.false_or, Bool.or_false, Bool.false_eq_true, if_false] at hit
    (refine AX.run0 (And.intro t1 (And.intro ta (And.intro tb (And.intro tc (And.intro e1 (And.intro h0 (And.intro ej (And.intro hg2 (And.intro hi' (And.intro hi0 (And.intro hb ei))))))))))) ?_)
    exact ⟨os.length - ((i + 1) + 1), by omega, (i + 1) + 1, l ++ [.cells 98 [.str m, .int .i64 k, .int .i64 n, .str s, .sl 5 .no (V.cellss is), .sl 1 .no (strsA ks), .bool b]], rfl, by omega, rfl, nx hit, by (exact AX.ev0 t1), by (exact AX.ev0 ta), by (exact AX.ev0 tb), by (exact AX.ev0 ei)⟩
 have hlt : ¬ ((j : Int) < (os.length : Int)) := by omega
 rw [List.drop_eq_nil_of_le (by omega)] at hit
 unfold Sf.outsZ at hit
 (refine AX.run0 (And.intro t1 (And.intro ta (And.intro tb (And.intro tc (And.intro hlt (And.intro lm1 (And.intro lm2 lm3))))))) ?_)
 exact ⟨_, le_refl _, by rw [fj2, ← hit]; rfl⟩
end AX
end Go.Proofs.YtnjkemakcejceaaGreatDoor
