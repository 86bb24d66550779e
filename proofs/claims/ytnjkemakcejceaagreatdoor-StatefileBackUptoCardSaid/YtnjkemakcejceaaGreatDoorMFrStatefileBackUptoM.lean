/- Part of what the proof needs. -/
import Derived.Test.YtnjkemakcejceaaGreatDoorMFrStatefileBackUptoA
import Derived.Test.YtnjkemakcejceaaGreatDoorMFrStatefileBackUptoC
import Derived.Test.YtnjkemakcejceaaGreatDoorMFrStatefileBackUptoD
import Derived.Test.YtnjkemakcejceaaGreatDoorMFrStatefileBackUptoE
import Derived.Test.YtnjkemakcejceaaGreatDoorMFrStatefileBackUptoG
import Derived.Test.YtnjkemakcejceaaGreatDoorMFrStatefileBackUptoI
import Derived.Test.YtnjkemakcejceaaGreatDoorMFrStatefileBackUptoK
import Derived.Test.YtnjkemakcejceaaGreatDoorMFrStatefileBackUptoL
import Derived.Maps.RangeRun
import Derived.Laws.Append
import Derived.Test.YtnjkemakcejceaaGreatDoorRows
import Derived.Lib.ParseIntB
import Derived.Test.YtnjkemakcejceaaGreatDoorShelfP
import Derived.Laws.RangeAny
import Derived.Laws.Runes
import Derived.Lib.OthersKept
import Derived.Deep.LoopGhost
import Derived.BigRegion
import Derived.Below
import Derived.BigQuiet
import Derived.Deep.QuietTactic
import Derived.WalkMore
import Derived.IntWalk
set_option linter.unusedSimpArgs false
set_option linter.unusedVariables false
set_option linter.unnecessarySimpa false
namespace Go.Proofs.YtnjkemakcejceaaGreatDoor
open Go.RowKit
set_option maxHeartbeats 4000000
namespace AX
def c_eqPend : AX.AFn := ⟨26, .seq (.reg false [⟨some 4, .mv (.c (.bool false)), none, []⟩]) (.seq (.seq (.reg false [⟨some 6, .mv (.t 0), none, []⟩, ⟨some 7, .len false (.t 6), none, []⟩, ⟨some 8, .mv (.t 1), none, []⟩, ⟨some 9, .len false (.t 8), none, []⟩, ⟨some 10, .bin .neq (.t 7) (.t 9), none, []⟩]) (.cond (.t 10) (.seq (.reg false [⟨some 4, .mv (.c (.bool false)), none, []⟩]) (.ret)) (.skip))) (.seq (.seq (.reg false [⟨some 11, .mv (.t 0), none, []⟩, ⟨some 12, .len false (.t 11), none, []⟩, ⟨some 13, .mv (.c (.int .i64 0)), none, []⟩]) (.block 0 (.loop (.seq (.reg false [⟨some 14, .bin .lss (.t 13) (.t 12), none, []⟩]) (.seq (.cond (.t 14) (.skip) (.exit 0)) (.seq (.block 1 (.seq (.reg false [⟨some 15, .mv (.t 13), none, []⟩, ⟨some 5, .mv (.t 15), none, []⟩]) (.seq (.reg true [⟨some 16, .mv (.t 0), none, []⟩, ⟨some 17, .mv (.t 5), none, []⟩, ⟨some 18, .iaddr 3 (.t 16) (.t 17), none, [0, 1]⟩, ⟨some 19, .load true 3 (.t 18), none, [2]⟩, ⟨some 20, .mv (.t 1), none, []⟩, ⟨some 21, .mv (.t 5), none, []⟩, ⟨some 22, .iaddr 3 (.t 20) (.t 21), none, [4, 5]⟩, ⟨some 23, .load true 3 (.t 22), none, [6]⟩, ⟨some 24, .eq 2 [1, 1, 1] true (.t 19) (.t 23), none, [3, 7]⟩]) (.cond (.t 24) (.seq (.reg false [⟨some 4, .mv (.c (.bool false)), none, []⟩]) (.ret)) (.skip))))) (.reg false [⟨some 25, .bin .add (.t 13) (.c (.int .i64 1)), none, []⟩, ⟨some 13, .mv (.t 25), none, []⟩]))))))) (.seq (.reg false [⟨some 4, .mv (.c (.bool true)), none, []⟩]) (.ret)))), [.t 4]⟩
theorem h_eqPend : AX.compFn Tryz.prog 55 = some c_eqPend := by kernel_rfl
def c_eqInst : AX.AFn := ⟨32, .seq (.reg false [⟨some 6, .mv (.c (.bool false)), none, []⟩]) (.seq (.seq (.reg false [⟨some 10, .mv (.t 0), none, []⟩, ⟨some 11, .len false (.t 10), none, []⟩, ⟨some 12, .mv (.t 1), none, []⟩, ⟨some 13, .len false (.t 12), none, []⟩, ⟨some 14, .bin .neq (.t 11) (.t 13), none, []⟩]) (.cond (.t 14) (.seq (.reg false [⟨some 6, .mv (.c (.bool false)), none, []⟩]) (.ret)) (.skip))) (.seq (.seq (.reg false [⟨some 15, .mv (.t 0), none, []⟩, ⟨some 16, .len false (.t 15), none, []⟩, ⟨some 17, .mv (.c (.int .i64 0)), none, []⟩]) (.block 0 (.loop (.seq (.reg false [⟨some 18, .bin .lss (.t 17) (.t 16), none, []⟩]) (.seq (.cond (.t 18) (.skip) (.exit 0)) (.seq (.block 1 (.seq (.reg false [⟨some 19, .mv (.t 17), none, []⟩, ⟨some 20, .iaddr 13 (.t 15) (.t 17), none, []⟩, ⟨some 21, .load true 13 (.t 20), none, []⟩, ⟨some 8, .alloc 42 [.str [], .str [], .str [], .str [], .int .i64 0, .int .i64 0, .str [], .sl 0 .nil [], .sl 0 .nil [], .int .i64 0, .bool false, .bool false, .sl 0 .nil []], none, []⟩, ⟨some 7, .mv (.t 19), none, []⟩, ⟨none, .store 13 (.t 8) (.t 21), none, []⟩]) (.seq (.reg false [⟨some 22, .mv (.t 1), none, []⟩, ⟨some 23, .mv (.t 7), none, []⟩, ⟨some 24, .iaddr 13 (.t 22) (.t 23), none, []⟩, ⟨some 25, .load true 13 (.t 24), none, []⟩, ⟨some 9, .alloc 42 [.str [], .str [], .str [], .str [], .int .i64 0, .int .i64 0, .str [], .sl 0 .nil [], .sl 0 .nil [], .int .i64 0, .bool false, .bool false, .sl 0 .nil []], none, []⟩, ⟨none, .store 13 (.t 9) (.t 25), none, []⟩]) (.seq (.reg false [⟨some 26, .mv (.t 2), none, []⟩, ⟨some 27, .load true 13 (.t 8), none, []⟩, ⟨some 28, .load true 13 (.t 9), none, []⟩, ⟨some 29, .callv (.t 26) [.t 27, .t 28], none, []⟩, ⟨some 30, .un .not (.t 29), none, []⟩]) (.cond (.t 30) (.seq (.reg false [⟨some 6, .mv (.c (.bool false)), none, []⟩]) (.ret)) (.skip)))))) (.reg false [⟨some 31, .bin .add (.t 17) (.c (.int .i64 1)), none, []⟩, ⟨some 17, .mv (.t 31), none, []⟩]))))))) (.seq (.reg false [⟨some 6, .mv (.c (.bool true)), none, []⟩]) (.ret)))), [.t 6]⟩
theorem h_eqInst : AX.compFn Tryz.prog 56 = some c_eqInst := by kernel_rfl
def c_eqOutp : AX.AFn := ⟨32, .seq (.reg false [⟨some 6, .mv (.c (.bool false)), none, []⟩]) (.seq (.seq (.reg false [⟨some 10, .mv (.t 0), none, []⟩, ⟨some 11, .len false (.t 10), none, []⟩, ⟨some 12, .mv (.t 1), none, []⟩, ⟨some 13, .len false (.t 12), none, []⟩, ⟨some 14, .bin .neq (.t 11) (.t 13), none, []⟩]) (.cond (.t 14) (.seq (.reg false [⟨some 6, .mv (.c (.bool false)), none, []⟩]) (.ret)) (.skip))) (.seq (.seq (.reg false [⟨some 15, .mv (.t 0), none, []⟩, ⟨some 16, .len false (.t 15), none, []⟩, ⟨some 17, .mv (.c (.int .i64 0)), none, []⟩]) (.block 0 (.loop (.seq (.reg false [⟨some 18, .bin .lss (.t 17) (.t 16), none, []⟩]) (.seq (.cond (.t 18) (.skip) (.exit 0)) (.seq (.block 1 (.seq (.reg false [⟨some 19, .mv (.t 17), none, []⟩, ⟨some 20, .iaddr 7 (.t 15) (.t 17), none, []⟩, ⟨some 21, .load true 7 (.t 20), none, []⟩, ⟨some 8, .alloc 98 [.str [], .int .i64 0, .int .i64 0, .str [], .sl 0 .nil [], .sl 0 .nil [], .bool false], none, []⟩, ⟨some 7, .mv (.t 19), none, []⟩, ⟨none, .store 7 (.t 8) (.t 21), none, []⟩]) (.seq (.reg false [⟨some 22, .mv (.t 1), none, []⟩, ⟨some 23, .mv (.t 7), none, []⟩, ⟨some 24, .iaddr 7 (.t 22) (.t 23), none, []⟩, ⟨some 25, .load true 7 (.t 24), none, []⟩, ⟨some 9, .alloc 98 [.str [], .int .i64 0, .int .i64 0, .str [], .sl 0 .nil [], .sl 0 .nil [], .bool false], none, []⟩, ⟨none, .store 7 (.t 9) (.t 25), none, []⟩]) (.seq (.reg false [⟨some 26, .mv (.t 2), none, []⟩, ⟨some 27, .load true 7 (.t 8), none, []⟩, ⟨some 28, .load true 7 (.t 9), none, []⟩, ⟨some 29, .callv (.t 26) [.t 27, .t 28], none, []⟩, ⟨some 30, .un .not (.t 29), none, []⟩]) (.cond (.t 30) (.seq (.reg false [⟨some 6, .mv (.c (.bool false)), none, []⟩]) (.ret)) (.skip)))))) (.reg false [⟨some 31, .bin .add (.t 17) (.c (.int .i64 1)), none, []⟩, ⟨some 17, .mv (.t 31), none, []⟩]))))))) (.seq (.reg false [⟨some 6, .mv (.c (.bool true)), none, []⟩]) (.ret)))), [.t 6]⟩
theorem h_eqOutp : AX.compFn Tryz.prog 58 = some c_eqOutp := by kernel_rfl
def c_ssame : AX.AFn := ⟨59, .seq (.reg false [⟨some 2, .box 42 (.t 0), none, []⟩, ⟨some 3, .box 42 (.t 1), none, []⟩, ⟨some 4, .mv (.c (.bool false)), none, []⟩]) (.seq (.reg true [⟨some 5, .load true 13 (.t 2), none, []⟩, ⟨some 6, .call 41 [.t 5], none, [0]⟩, ⟨some 7, .load true 13 (.t 3), none, []⟩, ⟨some 8, .call 41 [.t 7], none, [2, 1]⟩, ⟨some 9, .eq 2 [1, 1] false (.t 6) (.t 8), none, [1, 3]⟩, ⟨some 10, .mv (.t 9), none, [4, 3]⟩, ⟨some 11, .faddr 2 (.t 2), some (10, true), [5]⟩, ⟨some 12, .load false 1 (.t 11), some (10, true), [6, 5]⟩, ⟨some 13, .faddr 2 (.t 3), some (10, true), [5]⟩, ⟨some 14, .load false 1 (.t 13), some (10, true), [8, 5]⟩, ⟨some 15, .bin .eql (.t 12) (.t 14), some (10, true), [7, 9, 5]⟩, ⟨some 16, .pick (.t 10) (.t 15) (.c (.bool false)), none, [5, 10]⟩, ⟨some 17, .mv (.t 16), none, [11, 5]⟩, ⟨some 18, .faddr 3 (.t 2), some (17, true), [12]⟩, ⟨some 19, .load false 1 (.t 18), some (17, true), [13, 12]⟩, ⟨some 20, .faddr 3 (.t 3), some (17, true), [12]⟩, ⟨some 21, .load false 1 (.t 20), some (17, true), [15, 12]⟩, ⟨some 22, .bin .eql (.t 19) (.t 21), some (17, true), [14, 16, 12]⟩, ⟨some 23, .pick (.t 17) (.t 22) (.c (.bool false)), none, [12, 17]⟩, ⟨some 24, .mv (.t 23), none, [18, 12]⟩, ⟨some 25, .faddr 9 (.t 2), some (24, true), [19]⟩, ⟨some 26, .load false 1 (.t 25), some (24, true), [20, 19]⟩, ⟨some 27, .faddr 9 (.t 3), some (24, true), [19]⟩, ⟨some 28, .load false 1 (.t 27), some (24, true), [22, 19]⟩, ⟨some 29, .bin .eql (.t 26) (.t 28), some (24, true), [21, 23, 19]⟩, ⟨some 30, .pick (.t 24) (.t 29) (.c (.bool false)), none, [19, 24]⟩, ⟨some 31, .mv (.t 30), none, [25, 19]⟩, ⟨some 32, .faddr 10 (.t 2), some (31, true), [26]⟩, ⟨some 33, .load false 1 (.t 32), some (31, true), [27, 26]⟩, ⟨some 34, .faddr 10 (.t 3), some (31, true), [26]⟩, ⟨some 35, .load false 1 (.t 34), some (31, true), [29, 26]⟩, ⟨some 36, .eq 0 [] false (.t 33) (.t 35), some (31, true), [28, 30, 26]⟩, ⟨some 37, .pick (.t 31) (.t 36) (.c (.bool false)), none, [26, 31]⟩, ⟨some 38, .mv (.t 37), none, [32, 26]⟩, ⟨some 39, .faddr 11 (.t 2), some (38, true), [33]⟩, ⟨some 40, .load false 1 (.t 39), some (38, true), [34, 33]⟩, ⟨some 41, .faddr 11 (.t 3), some (38, true), [33]⟩, ⟨some 42, .load false 1 (.t 41), some (38, true), [36, 33]⟩, ⟨some 43, .eq 0 [] false (.t 40) (.t 42), some (38, true), [35, 37, 33]⟩, ⟨some 44, .pick (.t 38) (.t 43) (.c (.bool false)), none, [33, 38]⟩, ⟨some 45, .mv (.t 44), none, [39, 33]⟩, ⟨some 46, .faddr 12 (.t 2), some (45, true), [40]⟩, ⟨some 47, .load false 1 (.t 46), some (45, true), [41, 40]⟩, ⟨some 48, .faddr 12 (.t 3), some (45, true), [40]⟩, ⟨some 49, .load false 1 (.t 48), some (45, true), [43, 40]⟩, ⟨some 50, .call 101 [.t 47, .t 49], some (45, true), [42, 44, 40, 40]⟩, ⟨some 51, .pick (.t 45) (.t 50) (.c (.bool false)), none, [40, 45]⟩, ⟨some 52, .mv (.t 51), none, [46, 45]⟩, ⟨some 53, .faddr 4 (.t 2), some (52, true), [47]⟩, ⟨some 54, .load true 5 (.t 53), some (52, true), [48, 47]⟩, ⟨some 55, .faddr 4 (.t 3), some (52, true), [47]⟩, ⟨some 56, .load true 5 (.t 55), some (52, true), [50, 47]⟩, ⟨some 57, .call 60 [.t 54, .t 56], some (52, true), [49, 51, 47, 47]⟩, ⟨some 58, .pick (.t 52) (.t 57) (.c (.bool false)), none, [47, 52]⟩, ⟨some 4, .mv (.t 58), none, [53, 52, 0, 1, 2, 3, 4, 5, 6, 7, 8, 9, 10, 11, 12, 13, 14, 15, 16, 17, 18, 19, 20, 21, 22, 23, 24, 25, 26, 27, 28, 29, 30, 31, 32, 33, 34, 35, 36, 37, 38, 39, 40, 41, 42, 43, 44, 45, 46, 47, 48, 49, 50, 51, 52, 53]⟩]) (.ret)), [.t 4]⟩
theorem h_ssame : AX.compFn Tryz.prog 57 = some c_ssame := by kernel_rfl
def c_seq1 : AX.AFn := ⟨24, .seq (.reg false [⟨some 2, .box 98 (.t 0), none, []⟩, ⟨some 3, .box 98 (.t 1), none, []⟩, ⟨some 4, .mv (.c (.bool false)), none, []⟩]) (.seq (.reg false [⟨some 5, .faddr 0 (.t 2), none, []⟩, ⟨some 6, .load false 1 (.t 5), none, []⟩, ⟨some 7, .faddr 0 (.t 3), none, []⟩, ⟨some 8, .load false 1 (.t 7), none, []⟩, ⟨some 9, .bin .eql (.t 6) (.t 8), none, []⟩, ⟨some 10, .mv (.t 9), none, []⟩, ⟨some 11, .faddr 6 (.t 2), some (10, true), []⟩, ⟨some 12, .load false 1 (.t 11), some (10, true), []⟩, ⟨some 13, .faddr 6 (.t 3), some (10, true), []⟩, ⟨some 14, .load false 1 (.t 13), some (10, true), []⟩, ⟨some 15, .eq 0 [] false (.t 12) (.t 14), some (10, true), []⟩, ⟨some 16, .pick (.t 10) (.t 15) (.c (.bool false)), none, []⟩, ⟨some 17, .mv (.t 16), none, []⟩, ⟨some 18, .faddr 1 (.t 2), some (17, true), []⟩, ⟨some 19, .load true 5 (.t 18), some (17, true), []⟩, ⟨some 20, .faddr 1 (.t 3), some (17, true), []⟩, ⟨some 21, .load true 5 (.t 20), some (17, true), []⟩, ⟨some 22, .call 60 [.t 19, .t 21], some (17, true), []⟩, ⟨some 23, .pick (.t 17) (.t 22) (.c (.bool false)), none, []⟩, ⟨some 4, .mv (.t 23), none, []⟩]) (.ret)), [.t 4]⟩
theorem h_seq1 : AX.compFn Tryz.prog 59 = some c_seq1 := by kernel_rfl
def c_sEqual : AX.AFn := ⟨38, .seq (.reg false [⟨some 2, .box 26 (.t 0), none, []⟩, ⟨some 3, .box 26 (.t 1), none, []⟩, ⟨some 4, .mv (.c (.bool false)), none, []⟩]) (.seq (.reg false [⟨some 5, .faddr 0 (.t 2), none, []⟩, ⟨some 6, .load false 1 (.t 5), none, []⟩, ⟨some 7, .faddr 0 (.t 3), none, []⟩, ⟨some 8, .load false 1 (.t 7), none, []⟩, ⟨some 9, .bin .eql (.t 6) (.t 8), none, []⟩, ⟨some 10, .mv (.t 9), none, []⟩, ⟨some 11, .faddr 1 (.t 2), some (10, true), []⟩, ⟨some 12, .load false 1 (.t 11), some (10, true), []⟩, ⟨some 13, .faddr 1 (.t 3), some (10, true), []⟩, ⟨some 14, .load false 1 (.t 13), some (10, true), []⟩, ⟨some 15, .bin .eql (.t 12) (.t 14), some (10, true), []⟩, ⟨some 16, .pick (.t 10) (.t 15) (.c (.bool false)), none, []⟩, ⟨some 17, .mv (.t 16), none, []⟩, ⟨some 18, .faddr 3 (.t 2), some (17, true), []⟩, ⟨some 19, .load false 1 (.t 18), some (17, true), []⟩, ⟨some 20, .faddr 3 (.t 3), some (17, true), []⟩, ⟨some 21, .load false 1 (.t 20), some (17, true), []⟩, ⟨some 22, .call 55 [.t 19, .t 21], some (17, true), []⟩, ⟨some 23, .pick (.t 17) (.t 22) (.c (.bool false)), none, []⟩, ⟨some 24, .mv (.t 23), none, []⟩, ⟨some 25, .faddr 2 (.t 2), some (24, true), []⟩, ⟨some 26, .load false 1 (.t 25), some (24, true), []⟩, ⟨some 27, .faddr 2 (.t 3), some (24, true), []⟩, ⟨some 28, .load false 1 (.t 27), some (24, true), []⟩, ⟨some 29, .call 56 [.t 26, .t 28, .c (.fn 57 [])], some (24, true), []⟩, ⟨some 30, .pick (.t 24) (.t 29) (.c (.bool false)), none, []⟩, ⟨some 31, .mv (.t 30), none, []⟩, ⟨some 32, .faddr 4 (.t 2), some (31, true), []⟩, ⟨some 33, .load false 1 (.t 32), some (31, true), []⟩, ⟨some 34, .faddr 4 (.t 3), some (31, true), []⟩, ⟨some 35, .load false 1 (.t 34), some (31, true), []⟩, ⟨some 36, .call 58 [.t 33, .t 35, .c (.fn 59 [])], some (31, true), []⟩, ⟨some 37, .pick (.t 31) (.t 36) (.c (.bool false)), none, []⟩, ⟨some 4, .mv (.t 37), none, []⟩]) (.ret)), [.t 4]⟩
theorem h_sEqual : AX.compFn Tryz.prog 13 = some c_sEqual := by kernel_rfl
def c_r31Small : AX.AFn := ⟨71, .seq (.reg false [⟨some 3, .box 26 (.t 0), none, []⟩, ⟨some 6, .mv (.c (.bool false)), none, []⟩]) (.seq (.seq (.reg false [⟨some 9, .faddr 2 (.t 3), none, []⟩, ⟨some 10, .load false 1 (.t 9), none, []⟩, ⟨some 11, .len false (.t 10), none, []⟩, ⟨some 12, .mv (.t 1), none, []⟩, ⟨some 13, .bin .gtr (.t 11) (.t 12), none, []⟩, ⟨some 14, .mv (.t 13), none, []⟩, ⟨some 15, .faddr 3 (.t 3), some (14, false), []⟩, ⟨some 16, .load false 1 (.t 15), some (14, false), []⟩, ⟨some 17, .len false (.t 16), some (14, false), []⟩, ⟨some 18, .mv (.t 1), some (14, false), []⟩, ⟨some 19, .bin .gtr (.t 17) (.t 18), some (14, false), []⟩, ⟨some 20, .pick (.t 14) (.c (.bool true)) (.t 19), none, []⟩, ⟨some 21, .mv (.t 20), none, []⟩, ⟨some 22, .faddr 4 (.t 3), some (21, false), []⟩, ⟨some 23, .load false 1 (.t 22), some (21, false), []⟩, ⟨some 24, .len false (.t 23), some (21, false), []⟩, ⟨some 25, .mv (.t 1), some (21, false), []⟩, ⟨some 26, .bin .gtr (.t 24) (.t 25), some (21, false), []⟩, ⟨some 27, .pick (.t 21) (.c (.bool true)) (.t 26), none, []⟩]) (.cond (.t 27) (.seq (.reg false [⟨some 6, .mv (.c (.bool false)), none, []⟩]) (.ret)) (.skip))) (.seq (.seq (.reg false [⟨some 7, .mv (.c (.int .i64 0)), none, []⟩]) (.block 0 (.loop (.seq (.seq (.reg false [⟨some 28, .mv (.t 7), none, []⟩, ⟨some 29, .faddr 2 (.t 3), none, []⟩, ⟨some 30, .load false 1 (.t 29), none, []⟩, ⟨some 31, .len false (.t 30), none, []⟩, ⟨some 32, .bin .lss (.t 28) (.t 31), none, []⟩]) (.cond (.t 32) (.skip) (.exit 0))) (.seq (.block 1 (.seq (.reg false [⟨some 35, .faddr 2 (.t 3), none, []⟩, ⟨some 36, .load false 1 (.t 35), none, []⟩, ⟨some 37, .mv (.t 7), none, []⟩, ⟨some 38, .iaddr 13 (.t 36) (.t 37), none, []⟩, ⟨some 39, .faddr 4 (.t 38), none, []⟩, ⟨some 40, .load true 5 (.t 39), none, []⟩, ⟨some 41, .mv (.t 2), none, []⟩, ⟨some 42, .call 73 [.t 40, .t 41], none, []⟩, ⟨some 43, .un .not (.t 42), none, []⟩, ⟨some 44, .mv (.t 43), none, []⟩, ⟨some 45, .faddr 2 (.t 3), some (44, false), []⟩, ⟨some 46, .load false 1 (.t 45), some (44, false), []⟩, ⟨some 47, .mv (.t 7), some (44, false), []⟩, ⟨some 48, .iaddr 13 (.t 46) (.t 47), some (44, false), []⟩, ⟨some 49, .faddr 12 (.t 48), some (44, false), []⟩, ⟨some 50, .load false 1 (.t 49), some (44, false), []⟩, ⟨some 51, .len false (.t 50), some (44, false), []⟩, ⟨some 52, .mv (.t 1), some (44, false), []⟩, ⟨some 53, .bin .gtr (.t 51) (.t 52), some (44, false), []⟩, ⟨some 54, .pick (.t 44) (.c (.bool true)) (.t 53), none, []⟩]) (.cond (.t 54) (.seq (.reg false [⟨some 6, .mv (.c (.bool false)), none, []⟩]) (.ret)) (.skip)))) (.reg false [⟨some 33, .mv (.t 7), none, []⟩, ⟨some 34, .bin .add (.t 33) (.c (.int .i64 1)), none, []⟩, ⟨some 7, .mv (.t 34), none, []⟩])))))) (.seq (.seq (.reg false [⟨some 8, .mv (.c (.int .i64 0)), none, []⟩]) (.block 2 (.loop (.seq (.seq (.reg false [⟨some 55, .mv (.t 8), none, []⟩, ⟨some 56, .faddr 4 (.t 3), none, []⟩, ⟨some 57, .load false 1 (.t 56), none, []⟩, ⟨some 58, .len false (.t 57), none, []⟩, ⟨some 59, .bin .lss (.t 55) (.t 58), none, []⟩]) (.cond (.t 59) (.skip) (.exit 2))) (.seq (.block 3 (.seq (.reg false [⟨some 62, .faddr 4 (.t 3), none, []⟩, ⟨some 63, .load false 1 (.t 62), none, []⟩, ⟨some 64, .mv (.t 8), none, []⟩, ⟨some 65, .iaddr 7 (.t 63) (.t 64), none, []⟩, ⟨some 66, .faddr 1 (.t 65), none, []⟩, ⟨some 67, .load true 5 (.t 66), none, []⟩, ⟨some 68, .mv (.t 2), none, []⟩, ⟨some 69, .call 73 [.t 67, .t 68], none, []⟩, ⟨some 70, .un .not (.t 69), none, []⟩]) (.cond (.t 70) (.seq (.reg false [⟨some 6, .mv (.c (.bool false)), none, []⟩]) (.ret)) (.skip)))) (.reg false [⟨some 60, .mv (.t 8), none, []⟩, ⟨some 61, .bin .add (.t 60) (.c (.int .i64 1)), none, []⟩, ⟨some 8, .mv (.t 61), none, []⟩])))))) (.seq (.reg false [⟨some 6, .mv (.c (.bool true)), none, []⟩]) (.ret))))), [.t 6]⟩
theorem h_r31Small : AX.compFn Tryz.prog 38 = some c_r31Small := by kernel_rfl
theorem eqB_refl_ : ∀ v : V, Val.eqB v v = true := by
 refine V.induct fun k n s is ks ih => ?_
 rw [Val.eqB]
 have : Val.eqBs is is = true := by
  have key : ∀ l : List V, (∀ x ∈ l, Val.eqB x x = true) → Val.eqBs l l = true := by
   intro l
   induction l with
   | nil => intro _; rw [Val.eqBs]
   | cons x l ihl =>
    intro hl
    rw [Val.eqBs, hl x (by simp), ihl fun y hy => hl y (by simp [hy])]
    rfl
  exact key is ih
 simp [this]
theorem a_eqPend (l : List Sf.Pend) (hl : l.length ≤ 1000000000) (h : Hp) : ACall Tryz.prog GT 55 [.sl 3 .no (l.map Sf.Pend.cells), .sl 3 .no (l.map Sf.Pend.cells)] h fun r h' => r = .bool true ∧ h' = h := by
 refine pcall ?_ rfl (by simp [A.pure, A.data, Sf.Pend.cells]) h
 refine acall_of mixedT h_eqPend (by simp [c_eqPend]) ?_
 dsimp only [c_eqPend]
 have lm : (l.map Sf.Pend.cells).length = l.length := List.length_map _
 have e0 : ((l.length : Int) != (l.length : Int)) = false := by simp
 (refine AX.run0 (And.intro lm e0) ?_)
 refine awp_loop (fun m ts hh => hh = ⟨[], []⟩ ∧ ∃ (i : Nat), m = l.length - i ∧ i ≤ l.length ∧ ts 0 = .sl 3 .no (l.map Sf.Pend.cells) ∧ ts 1 = .sl 3 .no (l.map Sf.Pend.cells) ∧ ts 12 = .int .i64 (l.length : Nat) ∧ ts 13 = .int .i64 (i : Nat)) l.length ?_ ?_
 ·exact ⟨rfl, 0, rfl, Nat.zero_le _, by (exact AX.ev0 True.intro), by (exact AX.ev0 True.intro), by (exact AX.ev0 lm), by (exact AX.inv0 True.intro)⟩
 ·rintro m ts hh ⟨rfl, i, rfl, hi, t0, t1, t12, t13⟩
  by_cases hlt : i < l.length
  ·have hlt2 : (i : Int) < (l.length : Int) := by omega
   have hla : (i : Int) < ((l.map Sf.Pend.cells).length : Int) := by rw [lm]; omega
   have hj0 : (0 : Int) ≤ (i : Int) := by omega
   have ei : IntKind.i64.wrap ((i : Int) + 1) = ((i + 1 : Nat) : Int) := by rw [wrap64 (by omega) (by omega)]; omega
   have hg := map_getD Sf.Pend.cells l i hlt
   obtain ⟨x, hx⟩ : ∃ x, l[i] = x := ⟨_, rfl⟩
   rw [hx] at hg
   simp only [Sf.Pend.cells] at hg
   have eq : ∀ a b c : List UInt8, eqCells [1, 1, 1] [.str a, .str b, .str c] [.str a, .str b, .str c] = some true := fun a b c => by simp [eqCells]
   (refine AX.run0 (And.intro t0 (And.intro t1 (And.intro t12 (And.intro t13 (And.intro hlt2 (And.intro hla (And.intro hj0 (And.intro hg (And.intro ei eq))))))))) ?_)
   exact ⟨l.length - (i + 1), by omega, rfl, i + 1, rfl, by omega, by (exact AX.ev0 t0), by (exact AX.ev0 t1), by (exact AX.ev0 t12), by (exact AX.ev0 ei)⟩
  ·have hlt2 : ¬ (i : Int) < (l.length : Int) := by omega
   (refine AX.run0 (And.intro t0 (And.intro t1 (And.intro t12 (And.intro t13 hlt2)))) ?_)
   exact ⟨_, le_refl _, rfl⟩
theorem a_same (x : Sf.Inst) (hx : Sf.InstIn x) (h : Hp) : ACall Tryz.prog GT 57 [.agg x.cells, .agg x.cells] h fun r h' => r = .bool true ∧ h' = h := by
 have hv := a_vEqual x.attrs x.attrs hx.l hx.l
 rw [eqB_refl_] at hv
 have hs := a_seqs x.deps x.deps (by have := hx.n; omega) (by have := hx.n; omega)
 rw [show (x.deps == x.deps) = true from beq_self_eq_true _] at hs
 have hp := fun h => a_placeOf x h
 obtain ⟨a, d, id, ty, ⟨k, n, w, vi, vy⟩, v, tn, fi, ds⟩ := x
 simp only [V.A, V.cells, Sf.Inst.cells] at hv hs hp ⊢
 refine pcall ?_ rfl (by simp [A.pure, A.data]) h
 refine acall_of mixedT h_ssame (by simp [c_ssame]) ?_
 dsimp only [c_ssame]
 have eq : ∀ a b : List UInt8, eqCells [1, 1] [.str a, .str b] [.str a, .str b] = some true := fun a b => by simp [eqCells]
 (refine AX.run0 eq ?_)
 refine use (hp _) ?_
 (refine AX.run0 eq ?_)
 refine use (hp _) ?_
 (refine AX.run0 eq ?_)
 refine use (hs _) ?_
 (refine AX.run0 eq ?_)
 refine use (hv _) ?_
 (refine AX.run0 eq ?_)
 exact ⟨_, le_refl _, rfl⟩
theorem a_eqInst (l : List Sf.Inst) (hl : l.length ≤ 1000000000) (hx : ∀ x ∈ l, ∀ h, ACall Tryz.prog GT 57 [.agg x.cells, .agg x.cells] h fun r h' => r = .bool true ∧ h' = h) (h : Hp) : ACall Tryz.prog GT 56 [.sl 13 .no (l.map Sf.Inst.cells), .sl 13 .no (l.map Sf.Inst.cells), .fn 57 []] h fun r h' => r = .bool true ∧ h' = h := by
 refine pcall ?_ rfl (by simp [A.pure, A.data]) h
 refine acall_of mixedT h_eqInst (by simp [c_eqInst]) ?_
 dsimp only [c_eqInst]
 have lm : (l.map Sf.Inst.cells).length = l.length := List.length_map _
 have e0 : ((l.length : Int) != (l.length : Int)) = false := by simp
 (refine AX.run0 (And.intro lm e0) ?_)
 refine awp_loop (fun m ts hh => ∃ (i : Nat), m = l.length - i ∧ i ≤ l.length ∧ hh.t = [] ∧ ts 0 = .sl 13 .no (l.map Sf.Inst.cells) ∧ ts 1 = .sl 13 .no (l.map Sf.Inst.cells) ∧ ts 2 = .fn 57 [] ∧ ts 15 = .sl 13 .no (l.map Sf.Inst.cells) ∧ ts 16 = .int .i64 (l.length : Nat) ∧ ts 17 = .int .i64 (i : Nat)) l.length ?_ ?_
 ·exact ⟨0, rfl, Nat.zero_le _, rfl, by (exact AX.ev0 True.intro), by (exact AX.ev0 True.intro), by (exact AX.ev0 True.intro), by (exact AX.ev0 True.intro), by (exact AX.ev0 lm), by (exact AX.inv0 True.intro)⟩
 ·rintro m ts ⟨hb, ht⟩ ⟨i, rfl, hi, e, t0, t1, t2, t15, t16, t17⟩
  dsimp only at e
  subst e
  by_cases hlt : i < l.length
  ·have hlt2 : (i : Int) < (l.length : Int) := by omega
   have hla : (i : Int) < ((l.map Sf.Inst.cells).length : Int) := by rw [lm]; omega
   have hj0 : (0 : Int) ≤ (i : Int) := by omega
   have ei : IntKind.i64.wrap ((i : Int) + 1) = ((i + 1 : Nat) : Int) := by rw [wrap64 (by omega) (by omega)]; omega
   have hg := map_getD Sf.Inst.cells l i hlt
   have hc := hx _ (List.getElem_mem hlt)
   obtain ⟨x, hxx⟩ : ∃ x, l[i] = x := ⟨_, rfl⟩
   rw [hxx] at hg hc
   obtain ⟨a, d, id, ty, ⟨k, n, w, vi, vy⟩, v, tn, fi, ds⟩ := x
   simp only [Sf.Inst.cells] at hg hc
   (refine AX.run0 (And.intro t0 (And.intro t1 (And.intro t2 (And.intro t15 (And.intro t16 (And.intro t17 (And.intro hlt2 (And.intro hla (And.intro hj0 (And.intro hg (And.intro ei (And.intro @set_new (And.intro @len_a1 (And.intro @get_b2 (And.intro @get_a2 @set_b2))))))))))))))) ?_)
   refine use (hc _) ?_
   (refine AX.run0 (And.intro t0 (And.intro t1 (And.intro t2 (And.intro t15 (And.intro t16 (And.intro t17 ei)))))) ?_)
   exact ⟨l.length - (i + 1), by omega, i + 1, rfl, by omega, rfl, by (exact AX.ev0 t0), by (exact AX.ev0 t1), by (exact AX.ev0 t2), by (exact AX.ev0 t15), by (exact AX.ev0 t16), by (exact AX.ev0 ei)⟩
  ·have hlt2 : ¬ (i : Int) < (l.length : Int) := by omega
   (refine AX.run0 (And.intro t0 (And.intro t1 (And.intro t2 (And.intro t15 (And.intro t16 (And.intro t17 hlt2)))))) ?_)
   exact ⟨_, le_refl _, rfl⟩
theorem a_seq1 (x : Sf.Outp) (hl : x.value.lens) (h : Hp) : ACall Tryz.prog GT 59 [.agg x.cells, .agg x.cells] h fun r h' => r = .bool true ∧ h' = h := by
 have hv := a_vEqual x.value x.value hl hl
 rw [eqB_refl_] at hv
 obtain ⟨m, ⟨k, n, w, vi, vy⟩, b⟩ := x
 simp only [V.A, V.cells, Sf.Outp.cells] at hv ⊢
 refine pcall ?_ rfl (by simp [A.pure, A.data]) h
 refine acall_of mixedT h_seq1 (by simp [c_seq1]) ?_
 dsimp only [c_seq1]
 (refine AX.run0 True.intro ?_)
 refine use (hv _) ?_
 (refine AX.run0 True.intro ?_)
 exact ⟨_, le_refl _, rfl⟩
theorem a_eqOutp (l : List Sf.Outp) (hl : l.length ≤ 1000000000) (hx : ∀ x ∈ l, ∀ h, ACall Tryz.prog GT 59 [.agg x.cells, .agg x.cells] h fun r h' => r = .bool true ∧ h' = h) (h : Hp) : ACall Tryz.prog GT 58 [.sl 7 .no (l.map Sf.Outp.cells), .sl 7 .no (l.map Sf.Outp.cells), .fn 59 []] h fun r h' => r = .bool true ∧ h' = h := by
 refine pcall ?_ rfl (by simp [A.pure, A.data]) h
 refine acall_of mixedT h_eqOutp (by simp [c_eqOutp]) ?_
 dsimp only [c_eqOutp]
 have lm : (l.map Sf.Outp.cells).length = l.length := List.length_map _
 have e0 : ((l.length : Int) != (l.length : Int)) = false := by simp
 (refine AX.run0 (And.intro lm e0) ?_)
 refine awp_loop (fun m ts hh => ∃ (i : Nat), m = l.length - i ∧ i ≤ l.length ∧ hh.t = [] ∧ ts 0 = .sl 7 .no (l.map Sf.Outp.cells) ∧ ts 1 = .sl 7 .no (l.map Sf.Outp.cells) ∧ ts 2 = .fn 59 [] ∧ ts 15 = .sl 7 .no (l.map Sf.Outp.cells) ∧ ts 16 = .int .i64 (l.length : Nat) ∧ ts 17 = .int .i64 (i : Nat)) l.length ?_ ?_
 ·exact ⟨0, rfl, Nat.zero_le _, rfl, by (exact AX.ev0 True.intro), by (exact AX.ev0 True.intro), by (exact AX.ev0 True.intro), by (exact AX.ev0 True.intro), by (exact AX.ev0 lm), by (exact AX.inv0 True.intro)⟩
 ·rintro m ts ⟨hb, ht⟩ ⟨i, rfl, hi, e, t0, t1, t2, t15, t16, t17⟩
  dsimp only at e
  subst e
  by_cases hlt : i < l.length
  ·have hlt2 : (i : Int) < (l.length : Int) := by omega
   have hla : (i : Int) < ((l.map Sf.Outp.cells).length : Int) := by rw [lm]; omega
   have hj0 : (0 : Int) ≤ (i : Int) := by omega
   have ei : IntKind.i64.wrap ((i : Int) + 1) = ((i + 1 : Nat) : Int) := by rw [wrap64 (by omega) (by omega)]; omega
   have hg := map_getD Sf.Outp.cells l i hlt
   have hc := hx _ (List.getElem_mem hlt)
   obtain ⟨x, hxx⟩ : ∃ x, l[i] = x := ⟨_, rfl⟩
   rw [hxx] at hg hc
   obtain ⟨q, ⟨k, n, w, vi, vy⟩, b⟩ := x
   simp only [Sf.Outp.cells] at hg hc
   (refine AX.run0 (And.intro t0 (And.intro t1 (And.intro t2 (And.intro t15 (And.intro t16 (And.intro t17 (And.intro hlt2 (And.intro hla (And.intro hj0 (And.intro hg (And.intro ei (And.intro @set_new (And.intro @len_a1 (And.intro @get_b2 (And.intro @get_a2 @set_b2))))))))))))))) ?_)
   refine use (hc _) ?_
   (refine AX.run0 (And.intro t0 (And.intro t1 (And.intro t2 (And.intro t15 (And.intro t16 (And.intro t17 ei)))))) ?_)
   exact ⟨l.length - (i + 1), by omega, i + 1, rfl, by omega, rfl, by (exact AX.ev0 t0), by (exact AX.ev0 t1), by (exact AX.ev0 t2), by (exact AX.ev0 t15), by (exact AX.ev0 t16), by (exact AX.ev0 ei)⟩
  ·have hlt2 : ¬ (i : Int) < (l.length : Int) := by omega
   (refine AX.run0 (And.intro t0 (And.intro t1 (And.intro t2 (And.intro t15 (And.intro t16 (And.intro t17 hlt2)))))) ?_)
   exact ⟨_, le_refl _, rfl⟩
theorem a_stEqual (st : Sf.St) (hin : Sf.StIn st) (h : Hp) : ACall Tryz.prog GT 13 [st.A, st.A] h fun r h' => r = .bool true ∧ h' = h := by
 have h1 := a_eqPend st.pends hin.lp
 have h2 := a_eqInst st.insts hin.li fun x hx => a_same x (hin.insts x hx)
 have h3 := a_eqOutp st.outs hin.lo fun x hx => a_seq1 x (hin.outs x hx).2
 obtain ⟨lin, ser, ins, ps, os⟩ := st
 simp only [Sf.St.A]
 dsimp only at h1 h2 h3
 refine pcall ?_ rfl (by simp [A.pure, A.data]) h
 refine acall_of mixedT h_sEqual (by simp [c_sEqual]) ?_
 dsimp only [c_sEqual]
 (refine AX.run0 True.intro ?_)
 refine use (h1 _) ?_
 (refine AX.run0 True.intro ?_)
 refine use (h2 _) ?_
 (refine AX.run0 True.intro ?_)
 refine use (h3 _) ?_
 (refine AX.run0 True.intro ?_)
 exact ⟨_, le_refl _, rfl⟩
namespace Sf
def smallV (v : V) (nd : Nat) : Bool := decide (0 ≤ Val.left v nd 40) && decide (IntKind.i64.wrap (Val.keysN v) ≤ 2 * (nd : Int))
def smallI (parts : Int) (nd : Nat) (x : Sf.Inst) : Bool := smallV x.attrs nd && !decide ((x.deps.length : Int) > parts)
def smallP (parts : Int) (nd : Nat) (s : Sf.St) : Bool :=
 !(decide ((s.insts.length : Int) > parts) || decide ((s.pends.length : Int) > parts) || decide ((s.outs.length : Int) > parts)) && (s.insts.all (smallI parts nd) && s.outs.all fun o => smallV o.value nd)
end Sf
theorem all_drop {α : Type} (p : α → Bool) (l : List α) (i : Nat) (h : i < l.length) : (l.drop i).all p = (p l[i] && (l.drop (i + 1)).all p) := by
 rw [List.drop_eq_getElem_cons h, List.all_cons]
theorem a_r31Small (st : Sf.St) (hin : Sf.StIn st) (parts : Int) (nd : Nat) (hp : 0 ≤ parts) (hp2 : parts ≤ 1000000) (hn : nd ≤ 1000000) (h : Hp) : ACall Tryz.prog GT 38 [st.A, .int .i64 parts, .int .i64 (nd : Int)] h fun r h' => r = .bool (Sf.smallP parts nd st) ∧ h' = h := by
 refine pcall ?_ rfl (by simp [A.pure, A.data, Sf.St.A]) h
 refine acall_of mixedT h_r31Small (by simp [c_r31Small]) ?_
 dsimp only [c_r31Small]
 have hli := hin.li
 have hlo := hin.lo
 have hci := fun x (hx : x ∈ st.insts) => a_rSmall x.attrs nd hn (hin.insts x hx).l
 have hdi := fun x (hx : x ∈ st.insts) => (hin.insts x hx).n
 have hco := fun x (hx : x ∈ st.outs) => a_rSmall x.value nd hn (hin.outs x hx).2
 obtain ⟨lin, ser, ins, ps, os⟩ := st
 simp only [Sf.St.A]
 dsimp only at hli hlo hci hdi hco
 have lm1 : (ins.map Sf.Inst.cells).length = ins.length := List.length_map _
 have lm2 : (ps.map Sf.Pend.cells).length = ps.length := List.length_map _
 have lm3 : (os.map Sf.Outp.cells).length = os.length := List.length_map _
 obtain ⟨q, hq⟩ : ∃ q, Sf.smallP parts nd ⟨lin, ser, ins, ps, os⟩ = q := ⟨_, rfl⟩
 rw [hq]
 unfold Sf.smallP at hq
 dsimp only at hq
 by_cases g1 : (ins.length : Int) > parts
 ·have : false = q := by rw [← hq]; simp [g1]
  subst this
  (refine AX.run0 (And.intro lm1 (And.intro lm2 (And.intro lm3 g1))) ?_)
  exact ⟨_, le_refl _, rfl⟩
 by_cases g2 : (ps.length : Int) > parts
 ·have : false = q := by rw [← hq]; simp [g2]
  subst this
  (refine AX.run0 (And.intro lm1 (And.intro lm2 (And.intro lm3 (And.intro g1 g2)))) ?_)
  exact ⟨_, le_refl _, rfl⟩
 by_cases g3 : (os.length : Int) > parts
 ·have : false = q := by rw [← hq]; simp [g3]
  subst this
  (refine AX.run0 (And.intro lm1 (And.intro lm2 (And.intro lm3 (And.intro g1 (And.intro g2 g3))))) ?_)
  exact ⟨_, le_refl _, rfl⟩
 have hq' : (ins.all (Sf.smallI parts nd) && os.all fun o => Sf.smallV o.value nd) = q := by rw [← hq]; simp [g1, g2, g3]
 (refine AX.run0 (And.intro lm1 (And.intro lm2 (And.intro lm3 (And.intro g1 (And.intro g2 g3))))) ?_)
 refine awp_loop (fun m ts hh => hh = ⟨[.cells 26 [.str lin, .int .i64 ser, .sl 13 .no (ins.map Sf.Inst.cells), .sl 3 .no (ps.map Sf.Pend.cells), .sl 7 .no (os.map Sf.Outp.cells)]], []⟩ ∧ ∃ (i : Nat), m = ins.length - i ∧ i ≤ ins.length ∧ (ins.drop i).all (Sf.smallI parts nd) = ins.all (Sf.smallI parts nd) ∧ ts 1 = .int .i64 parts ∧ ts 2 = .int .i64 (nd : Int) ∧ ts 3 = .ptr 0 0 ∧ ts 7 = .int .i64 (i : Nat)) ins.length ?_ ?_
 ·exact ⟨rfl, 0, rfl, Nat.zero_le _, rfl, by (exact AX.ev0 True.intro), by (exact AX.ev0 True.intro), by (exact AX.ev0 True.intro), by (exact AX.inv0 True.intro)⟩
 ·rintro m ts hh ⟨rfl, i, rfl, hi, heq, t1, t2, t3, t7⟩
  by_cases hlt : i < ins.length
  ·have hlt2 : (i : Int) < (ins.length : Int) := by omega
   have hla : (i : Int) < ((ins.map Sf.Inst.cells).length : Int) := by rw [lm1]; omega
   have hj0 : (0 : Int) ≤ (i : Int) := by omega
   have ei : IntKind.i64.wrap ((i : Int) + 1) = ((i + 1 : Nat) : Int) := by rw [wrap64 (by omega) (by omega)]; omega
   have hg := map_getD Sf.Inst.cells ins i hlt
   have hc := hci _ (List.getElem_mem hlt)
   rw [all_drop _ _ _ hlt] at heq
   obtain ⟨x, hxx⟩ : ∃ x, ins[i] = x := ⟨_, rfl⟩
   rw [hxx] at hg hc heq
   obtain ⟨a, d, id, ty, ⟨k, n, w, vi, vy⟩, v, tn, fi, ds⟩ := x
   simp only [Sf.Inst.cells] at hg
   obtain ⟨b, hb⟩ : ∃ b, Sf.smallV (.mk k n w vi vy) nd = b := ⟨_, rfl⟩
   have hb' : (decide (0 ≤ Val.left (.mk k n w vi vy) nd 40) && decide (IntKind.i64.wrap (Val.keysN (.mk k n w vi vy)) ≤ 2 * (nd : Int))) = b := hb
   dsimp only at hc
   rw [hb'] at hc
   have hsx : Sf.smallI parts nd ⟨a, d, id, ty, ⟨k, n, w, vi, vy⟩, v, tn, fi, ds⟩ = (Sf.smallV (.mk k n w vi vy) nd && !decide ((ds.length : Int) > parts)) := rfl
   rw [hsx, hb] at heq
   have ld : (strsA ds).length = ds.length := strsA_length ds
   simp only [V.A, V.cells] at hc
   (refine AX.run0 (And.intro t1 (And.intro t2 (And.intro t3 (And.intro t7 (And.intro lm1 (And.intro hlt2 (And.intro hla (And.intro hj0 hg)))))))) ?_)
   refine use (hc _) ?_
   cases b
   ·(refine AX.run0 (And.intro t1 (And.intro t2 (And.intro t3 t7))) ?_)
    exact ⟨_, le_refl _, by rw [tupA_1, ← hq', show ins.all (Sf.smallI parts nd) = false from heq.symm]; rfl⟩
   ·by_cases gd : (ds.length : Int) > parts
    ·(refine AX.run0 (And.intro t1 (And.intro t2 (And.intro t3 (And.intro t7 (And.intro lm1 (And.intro hlt2 (And.intro hla (And.intro hj0 (And.intro hg (And.intro ld gd)))))))))) ?_)
     exact ⟨_, le_refl _, by rw [tupA_1, ← hq', show ins.all (Sf.smallI parts nd) = false from heq.symm.trans (by simp [gd])]; rfl⟩
    ·have hn : (true && !decide ((ds.length : Int) > parts)) = true := by simp [gd]
     rw [hn, Bool.true_and] at heq
     (refine AX.run0 (And.intro t1 (And.intro t2 (And.intro t3 (And.intro t7 (And.intro lm1 (And.intro hlt2 (And.intro hla (And.intro hj0 (And.intro hg (And.intro ld (And.intro gd ei))))))))))) ?_)
     exact ⟨ins.length - (i + 1), by omega, rfl, i + 1, rfl, by omega, heq, by (exact AX.ev0 t1), by (exact AX.ev0 t2), by (exact AX.ev0 t3), by (exact AX.ev0 ei)⟩
  ·have hlt2 : ¬ (i : Int) < (ins.length : Int) := by omega
   rw [List.drop_of_length_le (by omega), List.all_nil] at heq
   rw [← heq, Bool.true_and] at hq'
   (refine AX.run0 (And.intro t1 (And.intro t2 (And.intro t3 (And.intro t7 (And.intro lm1 hlt2))))) ?_)
   refine awp_loop (fun m ts hh => hh = ⟨[.cells 26 [.str lin, .int .i64 ser, .sl 13 .no (ins.map Sf.Inst.cells), .sl 3 .no (ps.map Sf.Pend.cells), .sl 7 .no (os.map Sf.Outp.cells)]], []⟩ ∧ ∃ (i : Nat), m = os.length - i ∧ i ≤ os.length ∧ ((os.drop i).all fun o => Sf.smallV o.value nd) = (os.all fun o => Sf.smallV o.value nd) ∧ ts 2 = .int .i64 (nd : Int) ∧ ts 3 = .ptr 0 0 ∧ ts 8 = .int .i64 (i : Nat)) os.length ?_ ?_
   ·exact ⟨rfl, 0, rfl, Nat.zero_le _, rfl, by (exact AX.ev0 t2), by (exact AX.ev0 t3), by (exact AX.inv0 True.intro)⟩
   ·rintro m ts hh ⟨rfl, i, rfl, hi, heq, t2, t3, t8⟩
    by_cases hlt : i < os.length
    ·have hlt2 : (i : Int) < (os.length : Int) := by omega
     have hla : (i : Int) < ((os.map Sf.Outp.cells).length : Int) := by rw [lm3]; omega
     have hj0 : (0 : Int) ≤ (i : Int) := by omega
     have ei : IntKind.i64.wrap ((i : Int) + 1) = ((i + 1 : Nat) : Int) := by rw [wrap64 (by omega) (by omega)]; omega
     have hg := map_getD Sf.Outp.cells os i hlt
     have hc := hco _ (List.getElem_mem hlt)
     rw [all_drop _ _ _ hlt] at heq
     obtain ⟨x, hxx⟩ : ∃ x, os[i] = x := ⟨_, rfl⟩
     rw [hxx] at hg hc heq
     obtain ⟨a, ⟨k, n, w, vi, vy⟩, sn⟩ := x
     simp only [Sf.Outp.cells] at hg
     obtain ⟨b, hb⟩ : ∃ b, Sf.smallV (.mk k n w vi vy) nd = b := ⟨_, rfl⟩
     have hb' : (decide (0 ≤ Val.left (.mk k n w vi vy) nd 40) && decide (IntKind.i64.wrap (Val.keysN (.mk k n w vi vy)) ≤ 2 * (nd : Int))) = b := hb
     dsimp only at hc heq
     rw [hb'] at hc
     rw [hb] at heq
     simp only [V.A, V.cells] at hc
     (refine AX.run0 (And.intro t2 (And.intro t3 (And.intro t8 (And.intro lm3 (And.intro hlt2 (And.intro hla (And.intro hj0 hg))))))) ?_)
     refine use (hc _) ?_
     cases b
     ·(refine AX.run0 (And.intro t2 (And.intro t3 t8)) ?_)
      exact ⟨_, le_refl _, by rw [tupA_1, ← hq', ← heq]; rfl⟩
     ·rw [Bool.true_and] at heq
      (refine AX.run0 (And.intro t2 (And.intro t3 (And.intro t8 ei))) ?_)
      exact ⟨os.length - (i + 1), by omega, rfl, i + 1, rfl, by omega, heq, by (exact AX.ev0 t2), by (exact AX.ev0 t3), by (exact AX.ev0 ei)⟩
    ·have hlt2 : ¬ (i : Int) < (os.length : Int) := by omega
     rw [List.drop_of_length_le (by omega), List.all_nil] at heq
     (refine AX.run0 (And.intro t2 (And.intro t3 (And.intro t8 (And.intro lm3 hlt2)))) ?_)
     exact ⟨_, le_refl _, by rw [tupA_1, ← hq', ← heq]⟩
end AX
end Go.Proofs.YtnjkemakcejceaaGreatDoor

namespace Go.Proofs.YtnjkemakcejceaaGreatDoor
open Go.RowKit
open Go.ChangeMaps (setBlock)
namespace AX
section
variable {P : Program} {G : World → Prop} {C0 : Ctx} {n : Nat}
structure Pst (G : World → Prop) (C0 : Ctx) (n : Nat) (ts : Ts) (h : Hp) (a : Act) (w : World) : Prop where
 out : ∃ C : Ctx, C.w = w ∧ Inv G C h ∧ Step C0 C ∧ RepT C ts n a ∧ a.defers = []
theorem pst_of {C : Ctx} {ts : Ts} {h : Hp} {a : Act} (hI : Inv G C h) (hT : RepT C ts n a) (hd : a.defers = []) : Pst G C n ts h a C.w := ⟨C, rfl, hI, Step.refl C, hT, hd⟩
theorem Pst.post {ts : Ts} {h : Hp} {a : Act} {w : World} {Q : AExit → Ts → Hp → Prop} (k : Pst G C0 n ts h a w) (hq : Q .normal ts h) : Post G C0 n Q .normal a w := by
 obtain ⟨C, h1, h2, h3, h4, h5⟩ := k.out
 exact ⟨C, ts, h, .normal, .normal, h1, h2, h3, h4, h5, hq⟩
theorem pl_nil {ops : Array Oper} {Q : Exit → Act → World → Prop} {ts : Ts} {h : Hp} {a : Act} {w : World} (k : Q .normal a w) : wpList P ops Q [] a w := by
 unfold wpList; exact k
theorem pl_op {ops : Array Oper} {os : List Oper} {o : Oper} {ao : AOp} {Q : Exit → Act → World → Prop} {ts : Ts} {h h' : Hp} {a : Act} {w : World} {v : A} (k : Pst G C0 n ts h a w) (hg : o.guard = none) (hd : compDst n o.dst = true) (hc : compOp P n o = some ao) (hcall : ao.isCall = false)
  (hs : astep (evX ts) h ao = some (v, h')) (hk : ∀ a' w', Pst G C0 n (put ts o.dst v) h' a' w' → wpList P ops Q os a' w') : wpList P ops Q (o :: os) a w := by
 obtain ⟨C, rfl, hI, hS, hT, hdf⟩ := k.out
 unfold wpList
 rw [if_pos (by simp [Region.wanted, hg])]
 have hp : aopP P G (evX ts) h (fun v' h2 => v' = v ∧ h2 = h') ao := by
  cases ao with
  | call => simp [AOp.isCall] at hcall
  | callv => simp [AOp.isCall] at hcall
  | _ => simp only [aopP]; rw [hs]; exact ⟨rfl, rfl⟩
 refine .inl (aop_wp hI hT hc hp fun C' h2 v' cv k1 k2 k3 k4 => ?_)
 obtain ⟨rfl, rfl⟩ := k4
 exact hk _ _ ⟨C', rfl, k1, hS.trans k2, (hT.ext k2.ext).put hd k3, by rw [put_defers]; exact hdf⟩
def regId : Code → Nat
 | .region id _ _ => id
 | _ => 0
def regOps : Code → Array Oper
 | .region _ ops _ => ops
 | _ => #[]
def opAt (c : Code) (i : Nat) : Oper := (regOps c).toList.getD i default
theorem wp_prim {c : Code} {id : Nat} {ops : Array Oper} {l : List Oper} {Q : Exit → Act → World → Prop} {a : Act} {w : World} (hc : c = .region id ops false) (hl : ops.toList = l) (k : wpList P ops Q l a w) : c.wp P Q a w := by
 subst hc
 exact wp_region_list (by rw [hl]; exact k)
theorem pl_rest {ops : Array Oper} {os : List Oper} {l : List AOper} {Q : AExit → Ts → Hp → Prop} {C : Ctx} {ts : Ts} {h : Hp} {a : Act} {w : World} (k : Pst G C n ts h a w) (hc : compOpers P n false ops os = some l) (hk : aops P G l (Q .normal) ts h) : wpList P ops (Post G C n Q) os a w := by
 obtain ⟨C1, rfl, hI, hS, hT, hd⟩ := k.out
 exact aops_sound (fun C2 ts2 h2 a2 i2 s2 t2 d2 q2 => ⟨C2, ts2, h2, .normal, .normal, rfl, i2, s2, t2, d2, q2⟩) os l hc C1 ts h a hI hS hT hd hk
end
end AX
end Go.Proofs.YtnjkemakcejceaaGreatDoor

namespace Go.Proofs.YtnjkemakcejceaaGreatDoor
open Go.RowKit
namespace AX
def bcA (l : List UInt8) : List A := l.map fun b => A.int .u8 b.toNat
theorem bcA_rep {C : Ctx} : ∀ {l : List UInt8} {cs : List Value}, RepL C (bcA l) cs ↔ cs = bcells l
 | [], cs => repL_nil
 | b :: l, cs => by
  show RepL C (.int .u8 b.toNat :: bcA l) cs ↔ cs = .int .u8 b.toNat :: bcells l
  constructor
  ·intro h
   obtain ⟨c, cs', rfl, h1, h2⟩ := repL_cons.1 h
   rw [rep_int.1 h1, bcA_rep.1 h2]
  ·rintro rfl
   exact repL_cons.2 ⟨_, _, rfl, rep_int.2 rfl, bcA_rep.2 rfl⟩
section
variable {P : Program} {G : World → Prop} {C0 : Ctx} {n : Nat}
theorem pl_appstr {ops : Array Oper} {os : List Oper} {o : Oper} {c : Call} {T U E : TypeId} {it : TypeInfo} {z : Value} {x y : Operand} {xo yo : Opd} {l : List UInt8} {Q : Exit → Act → World → Prop} {ts : Ts} {h : Hp} {a : Act} {w : World} (k : Pst G C0 n ts h a w) (hg : o.guard = none) (hd : compDst n o.dst = true)
  (hop : o.op = .call c) (hcal : c.callee = .builtin .append) (ha : c.args = #[x, y]) (hT : c.argTypes = #[T, U]) (ht : P.underlying T = some (.slice E)) (hu : P.underlying U = some .string) (hi : P.info? E = some it) (hz : it.zero = some z) (hby : it.bytes = 1)
  (hx : compX n x = some xo) (hy : compX n y = some yo) (vx : evX ts xo = .sl 0 .nil []) (vy : evX ts yo = .str l) (h0 : 0 < l.length) (hl : l.length ≤ 1000000000)
  (hk : ∀ a' w', Pst G C0 n (put ts o.dst (.bs h.b.length 1 l.length)) ⟨h.b ++ [.row E (bcA l)], h.t⟩ a' w' → wpList P ops Q os a' w') : wpList P ops Q (o :: os) a w := by
 obtain ⟨C, rfl, hI, hS, hTT, hdf⟩ := k.out
 have hrx := rep_opd hTT hx
 rw [vx] at hrx
 obtain ⟨ad, cap', ex, _, _, hown⟩ := rep_sl.1 hrx
 obtain ⟨rfl, rfl, hn0⟩ := hown
 have hry := rep_opd hTT hy
 rw [vy, rep_str] at hry
 have hsz : (⟨l.toArray⟩ : ByteArray).size = l.length := size_mk l
 have hr := run_append_nil_string (P := P) (w := C.w) T U o.type E it z ht hu hi hz ⟨l.toArray⟩ (by rw [hsz]; exact h0) (by rw [hsz]; omega) (by rw [hsz, hby]; omega)
 rw [hsz] at hr
 have hge := grownCap_ge C.w l.length 0 E
 have hcells : ((⟨l.toArray⟩ : ByteArray).data.map (fun b => Value.int .u8 b.toNat) ++ Builtin.zeroCells z.cells (grownCap C.w l.length 0 E - l.length)) = (bcells l ++ (Builtin.zeroCells z.cells (grownCap C.w l.length 0 E - l.length)).toList).toArray := by
  apply Array.toList_inj.1
  simp [bcells]
 rw [hcells] at hr
 obtain ⟨C', m1, m2, m3, m4, m5⟩ := new_row (w' := C.w.drew.alloc (.cells (bcells l ++ (Builtin.zeroCells z.cells (grownCap C.w l.length 0 E - l.length)).toList).toArray E)) (g := C.w.heap.size) (T := E) (l := bcA l) (cs := bcells l) (rest := (Builtin.zeroCells z.cells (grownCap C.w l.length 0 E - l.length)).toList) hI
  (((Below.refl C.w.heap.size C.w).drew).alloc (Nat.le_refl _) _) (Nat.le_refl _) (heap_alloc_new C.w.drew _) (bcA_rep.2 rfl)
 unfold wpList
 rw [if_pos (by simp [Region.wanted, hg])]
 refine .inl ?_
 unfold Oper.wp
 have he : (execOp a.eval o).run P C.w = .ok (.value (.slice (some ⟨C.w.heap.size, 0, none⟩) l.length (grownCap C.w l.length 0 E))) C'.w := by
  have hexec : (execOp a.eval o).run P C.w = ((Builtin.append_ #[T, U] o.type #[a.eval x, a.eval y]).run P C.w).andThen fun v w => .ok (.value v) w := by
   unfold execOp
   simp [hop, resolve, hcal, ha, hT, invoke, builtin]
  rw [hexec, ex, hry, hn0, m1]
  show ((Builtin.append_ #[T, U] o.type #[.slice none 0 0, .string ⟨l.toArray⟩]).run P C.w).andThen _ = _
  rw [hr]
  rfl
 rw [he, Oper.upon_value]
 exact hk _ _ ⟨C', rfl, m2, hS.trans m3, (hTT.ext m3.ext).put hd (show ∃ cap, _ from ⟨_, by rw [m4], hge, m5⟩), by rw [put_defers]; exact hdf⟩
theorem pl_tostr {ops : Array Oper} {os : List Oper} {o : Oper} {T U E : TypeId} {x : Operand} {xo : Opd} {i : Nat} {l : List UInt8} {Q : Exit → Act → World → Prop} {ts : Ts} {h : Hp} {a : Act} {w : World} (k : Pst G C0 n ts h a w) (hg : o.guard = none) (hd : compDst n o.dst = true)
  (hop : o.op = .convert T U x) (ht : P.underlying T = some (.slice E)) (he : P.underlying E = some (.int .u8)) (hu : P.underlying U = some .string) (hx : compX n x = some xo) (vx : evX ts xo = .bs i 1 l.length) (hb : h.b[i]? = some (.row E (bcA l)))
  (hk : ∀ a' w', Pst G C0 n (put ts o.dst (.str l)) h a' w' → wpList P ops Q os a' w') : wpList P ops Q (o :: os) a w := by
 obtain ⟨C, rfl, hI, hS, hTT, hdf⟩ := k.out
 have hrx := rep_opd hTT hx
 rw [vx] at hrx
 have hrx' : ∃ cap, a.eval x = .slice (some ⟨C.κ i, 0, none⟩) l.length cap ∧ l.length ≤ cap ∧ i < C.nb := by
  obtain ⟨cap, q⟩ := (show ∃ cap, a.eval x = .slice (some ⟨C.κ i, 0, none⟩) l.length cap ∧ l.length ≤ cap ∧ i < C.nb by unfold Rep at hrx; exact hrx)
  exact ⟨cap, q⟩
 obtain ⟨cap, ex, _, _⟩ := hrx'
 obtain ⟨cs, rest, h1, h2⟩ := hI.box i _ hb
 rw [bcA_rep] at h2
 subst h2
 have hB : BytesAt C.w (C.κ i) E l := ⟨_, 0, 0, h1, by simp [← bcells_length l], .inr rfl⟩
 have hr := hB.conv (P := P) T U cap ht he hu
 unfold wpList
 rw [if_pos (by simp [Region.wanted, hg])]
 refine .inl ?_
 unfold Oper.wp
 have he : (execOp a.eval o).run P C.w = .ok (.value (.string ⟨l.toArray⟩)) C.w := by
  unfold execOp
  simp only [hop, ex, Sem.run_bind, hr, Result.andThen_ok]
  rfl
 rw [he, Oper.upon_value]
 exact hk _ _ ⟨C, rfl, hI, hS, hTT.put hd (rep_str.2 rfl), by rw [put_defers]; exact hdf⟩
end
end AX
end Go.Proofs.YtnjkemakcejceaaGreatDoor

namespace Go.Proofs.YtnjkemakcejceaaGreatDoor
open Go.RowKit Go.ChangeShapes Go.WideShapes Go.Deep
mutual
def D.bulk : D → Nat
 | .int .. => 1
 | .str l => l.length + 1
 | .bool _ => 1
 | .agg l => D.bulks l + 1
 | .sl _ l => D.bulks l + 1
def D.bulks : List D → Nat
 | [] => 0
 | d :: l => d.bulk + D.bulks l
end
theorem bulks_le {H : Type} : ∀ (l : List D) (xs : List (DataW H)), l.length = xs.length → (∀ i (hi : i < l.length) (hj : i < xs.length), l[i].bulk ≤ Rows.uptoBulk xs[i]) → D.bulks l ≤ Rows.uptoBulkAll xs
 | [], [], _, _ => by rw [D.bulks]; exact Nat.zero_le _
 | [], _ :: _, h, _ => by simp at h
 | _ :: _, [], h, _ => by simp at h
 | d :: l, x :: xs, h, hb => by
  rw [D.bulks, Rows.uptoBulkAll]
  exact Nat.add_le_add (hb 0 (by simp) (by simp)) (bulks_le l xs (by simpa using h) fun i hi hj => hb (i + 1) (Nat.succ_lt_succ hi) (Nat.succ_lt_succ hj))
section
variable {H : Type} {enc : TypeId × Value → H} {P : Program} {w : World} {base : Nat} {spare : Nat → Bool} {held : Bool} {K : List TypeId}
theorem trod_fieldsB {n : Nat} (ih : ∀ t, t ∈ K → ∀ cs x, DataW.trod enc P w base spare held n t cs = some x → ∃ d, Rd w (Old w) d cs ∧ Conf P d t ∧ d.bulk ≤ Rows.uptoBulk x.1) (cs : List Value) :
  ∀ (fs : List Field) (o tot : Nat) (ys : List (DataW H × List MemPlace)), (∀ f ∈ fs, f.type ∈ K) → flat P fs o = some tot → cs.length = tot → ys.length = fs.length →
   (∀ (i : Nat) (f : Field), fs[i]? = some f → DataW.trod enc P w base spare held n f.type ((cs.drop f.offset).take (P.cellsOf f.type)) = ys[i]?) →
   ∃ l, RdAgg w (Old w) l (cs.drop o) ∧ ConfL P l (fs.map (·.type)) ∧ D.bulks l ≤ Rows.uptoBulkAll (ys.map (·.1))
 | [], o, tot, ys, hK, hf, hc, hy, hg => by
  simp only [flat, Option.some.injEq] at hf
  exact ⟨[], by unfold RdAgg; exact List.drop_of_length_le (by omega), by unfold ConfL; rfl, by unfold D.bulks; exact Nat.zero_le _⟩
 | f :: fs, o, tot, ys, hK, hf, hc, hy, hg => by
  simp only [flat] at hf
  split at hf
  ·next hfo =>
   match ys, hy with
   | y :: ys, hy =>
    have h0 := hg 0 f rfl
    obtain ⟨d, hd, hcf, hdb⟩ := ih f.type (hK f (by simp)) _ _ h0
    obtain ⟨l, hl, hcl2, hlb⟩ := trod_fieldsB ih cs fs (o + P.cellsOf f.type) tot ys (fun g hg => hK g (by simp [hg])) hf hc (by simpa using hy) (fun i g hi => by simpa using hg (i + 1) g (by simpa using hi))
    refine ⟨d :: l, ?_, ?_, ?_⟩
    ·unfold RdAgg
     refine ⟨_, cs.drop (o + P.cellsOf f.type), ?_, by rw [hfo] at hd; exact hd, hl⟩
     rw [← List.drop_drop, List.take_append_drop]
    ·unfold ConfL
     exact ⟨f.type, fs.map (·.type), rfl, hcf, hcl2⟩
    ·rw [List.map_cons, Rows.uptoBulkAll, D.bulks]
     exact Nat.add_le_add hdb hlb
  ·cases hf
theorem trod_rdB (hP : plainAll P K = true) : ∀ (n : Nat) (t : TypeId), t ∈ K → ∀ cs x, DataW.trod enc P w base spare held n t cs = some x → ∃ d, Rd w (Old w) d cs ∧ Conf P d t ∧ d.bulk ≤ Rows.uptoBulk x.1
 | 0, t, hK, cs, x, h => by simp [DataW.trod] at h
 | n + 1, t, hK, cs, x, h => by
  have hk : plainB P K t = true := by
   unfold plainAll at hP
   rw [List.all_eq_true] at hP
   exact hP t hK
  unfold plainB at hk
  split at hk
  ·next k hu =>
   obtain ⟨m, rfl, rfl, hw⟩ := DataW.trod_int hu h
   exact ⟨.int k m, by unfold Rd; rfl, by unfold Conf; exact ⟨hu, hw⟩, by unfold D.bulk Rows.uptoBulk; exact Nat.le_refl _⟩
  ·next hu =>
   obtain ⟨s, rfl, rfl, hs⟩ := DataW.trod_string hu h
   exact ⟨.str s.data.toList, by unfold Rd; simp, by unfold Conf; exact ⟨hu, by simpa using hs⟩, by unfold D.bulk Rows.uptoBulk; exact Nat.le_refl _⟩
  ·next hu =>
   obtain ⟨b, rfl, rfl⟩ := DataW.trod_bool hu h
   exact ⟨.bool b, by unfold Rd; rfl, by unfold Conf; exact hu, by unfold D.bulk Rows.uptoBulk; exact Nat.le_refl _⟩
  ·next fs hu =>
   rw [Bool.and_eq_true, List.all_eq_true, beq_iff_eq] at hk
   obtain ⟨xs, n', hn, rfl, hcl, hxl, hg⟩ := DataW.trod_struct hu h
   obtain rfl : n' = n := by omega
   obtain ⟨l, hl, hcf, hlb⟩ := trod_fieldsB (fun t hK cs x h => trod_rdB hP n' t hK cs x h) cs fs.toList 0 _ xs (fun f hf => by simpa using hk.1 f hf) hk.2 hcl (by simpa using hxl) (fun i f hi => hg i f (by simpa using hi))
   exact ⟨.agg l, by unfold Rd; exact hl, by unfold Conf; exact ⟨fs, hu, hcf⟩, by rw [D.bulk, Rows.uptoBulk]; exact Nat.succ_le_succ hlb⟩
  ·next e hu =>
   rw [Bool.and_eq_true, decide_eq_true_eq] at hk
   have heK : e ∈ K := by simpa using hk.1
   have hpos := hk.2
   rcases DataW.trod_slice hu h with ⟨rfl, rfl⟩ | ⟨a, len, cap, elems, rest, n', hn, rfl, rfl, hb, hlc, hcm, hel, hi, _⟩
   ·exact ⟨.sl (P.cellsOf e) [], by unfold Rd; exact ⟨none, 0, rfl, Nat.le_refl _, by unfold RdRow; trivial⟩, by unfold Conf; exact ⟨e, hu, rfl, by unfold ConfA; trivial, by simp⟩, by simp [D.bulk, D.bulks, Rows.uptoBulk]⟩
   ·obtain rfl : n' = n := by omega
    have hex : ∀ i, i < len → ∃ d : D, ∃ c, c.length = P.cellsOf e ∧ (∀ j, j < P.cellsOf e → w.cell? ((a.add (i * P.cellsOf e)).add j) = c[j]?) ∧ Rd w (Old w) d c ∧ Conf P d e ∧ ∀ y, elems[i]? = some y → d.bulk ≤ Rows.uptoBulk y.1 := by
     intro i hil
     have h1 := hi i hil
     have h2 : elems[i]? = some (elems[i]'(by omega)) := List.getElem?_eq_getElem (by omega)
     rw [h2] at h1
     obtain ⟨c, hc, ht⟩ := Option.bind_eq_some_iff.1 h1
     obtain ⟨d, hd, hcf, hdb⟩ := trod_rdB hP n' e heK c _ ht
     obtain ⟨_, hcl, hat⟩ := World.cells?_some hc
     exact ⟨d, c, hcl, hat, hd, hcf, fun y hy => by rw [h2] at hy; injection hy with hy; subst hy; exact hdb⟩
    haveI : Inhabited D := ⟨.bool true⟩
    obtain ⟨f, hf⟩ := choose_lt hex
    refine ⟨.sl (P.cellsOf e) ((List.range len).map f), ?_, ?_, ?_⟩
    ·unfold Rd
     refine ⟨some a, cap, by simp, by simpa using hlc, RdRow.of _ _ _ fun k hk => ?_⟩
     have hkl : k < len := by simpa using hk
     obtain ⟨c, hcl, hat, hrd, _⟩ := hf k hkl
     obtain ⟨c0, hcl0, hat0, _, _⟩ := hf 0 (by omega)
     obtain ⟨g, off, sp⟩ := a
     have h0 := hat0 0 hpos
     rw [List.getElem?_eq_getElem (by omega)] at h0
     have hs : sp = none := by
      have := (cell_there h0).1
      simpa [Addr.add] using this
     subst hs
     have h1 := hat 0 hpos
     rw [List.getElem?_eq_getElem (by omega)] at h1
     have hlt := (cell_there h1).2
     rw [add_off, add_off] at hlt
     refine ⟨g, off, c, rfl, hlt, hcl, fun j hj => ?_, by simpa using hrd⟩
     have := hat j hj
     rw [add_off, add_off] at this
     rw [Nat.zero_add]
     exact this
    ·unfold Conf
     exact ⟨e, hu, rfl, confA_of P e _ fun k hk => by simpa using (hf k (by simpa using hk)).choose_spec.2.2.2.1, by simp; omega⟩
    ·rw [D.bulk, Rows.uptoBulk]
     have := bulks_le ((List.range len).map f) (elems.map (·.1)) (by simp; omega) (fun i hi hj => by
      obtain ⟨c, _, _, _, _, h9⟩ := hf i (by simpa using hi)
      simpa using h9 (elems[i]'(by simpa using hj)) (List.getElem?_eq_getElem _))
     omega
  ·cases hk
end
end Go.Proofs.YtnjkemakcejceaaGreatDoor

namespace Go.Proofs.YtnjkemakcejceaaGreatDoor
open Go.Lib
namespace Num
def valA (n : Nat) (s : List UInt8) : Nat := s.foldl (fun n c => 10 * n + (c.toNat - 48)) n
theorem valA_cons (n : Nat) (c : UInt8) (s : List UInt8) : valA n (c :: s) = valA (10 * n + (c.toNat - 48)) s := by unfold valA; rw [List.foldl_cons]
theorem val_valA (s : List UInt8) : val s = valA 0 s := rfl
theorem valA_ge : ∀ (s : List UInt8) (n : Nat), n * 10 ^ s.length ≤ valA n s
 | [], n => by simp [valA]
 | c :: s, n => by
  rw [valA_cons, List.length_cons, Nat.pow_succ]
  refine Nat.le_trans ?_ (valA_ge s _)
  have e : n * (10 ^ s.length * 10) = (10 * n) * 10 ^ s.length := by
   rw [Nat.mul_comm (10 ^ s.length) 10, ← Nat.mul_assoc, Nat.mul_comm n 10]
  rw [e]
  exact Nat.mul_le_mul_right _ (by omega)
theorem valA_le (s : List UInt8) (n : Nat) : n ≤ valA n s := by
 have h := valA_ge s n
 have h1 : 1 ≤ 10 ^ s.length := Nat.one_le_pow _ _ (by omega)
 exact Nat.le_trans (by simpa using Nat.mul_le_mul_left n h1) h
theorem digB_iff (c : UInt8) : digB c = true ↔ 48 ≤ c.toNat ∧ c.toNat ≤ 57 := by simp [digB]
theorem uintM_digits : ∀ (l : List UInt8) (acc : Nat), l.all digB = true → parseUintM 18446744073709551615 acc l = if valA acc l ≤ 18446744073709551615 then .ok (valA acc l) else if l = [] then .ok acc else .range
 | [], acc, _ => by simp [parseUintM, valA]
 | c :: r, acc, h => by
  rw [List.all_cons, Bool.and_eq_true, digB_iff] at h
  have h1 := valA_le r (10 * acc + (c.toNat - 48))
  rw [valA_cons]
  unfold parseUintM
  rw [if_pos h.1]
  split
  ·rw [if_neg (by omega), if_neg (by simp)]
  ·split
   ·rw [if_neg (by omega), if_neg (by simp)]
   ·rw [uintM_digits r _ h.2, Nat.mul_comm acc 10]
    by_cases hv : valA (10 * acc + (c.toNat - 48)) r ≤ 18446744073709551615
    ·rw [if_pos hv, if_pos hv]
    ·rw [if_neg hv, if_neg hv, if_neg (show ¬ (c :: r = []) by simp)]
     cases r with
     | nil =>
      exfalso
      apply hv
      unfold valA
      rw [List.foldl_nil]
      omega
     | cons d q => rw [if_neg (by simp)]
def body (s : List UInt8) : List UInt8 := if s.getD 0 0 == 45 then s.drop 1 else s
def canonB (s : List UInt8) : Bool := digits (body s) && !(s.getD 0 0 == 45 && body s == [48])
theorem digits_long {t : List UInt8} (h : digits t = true) (hl : 16 < t.length) : 9007199254740992 < val t := by
 cases t with
 | nil => simp at hl
 | cons c r =>
  unfold digits at h
  rw [Bool.and_eq_true, Bool.or_eq_true, beq_iff_eq, Bool.and_eq_true, List.all_cons, Bool.and_eq_true, digB_iff] at h
  obtain ⟨⟨h1, h2⟩, h3⟩ := h
  rcases h3 with h3 | h3
  ·injection h3 with _ h3; subst h3; simp at hl
  ·have h4 : c ≠ 48 := by simpa using h3.2
   have h5 : c.toNat ≠ 48 := fun e => h4 (UInt8.toNat_inj.1 (by simpa using e))
   have h6 := valA_ge r (c.toNat - 48)
   have h7 : 10 ^ 16 ≤ 10 ^ r.length := Nat.pow_le_pow_right (by omega) (by simp at hl; omega)
   have h8 : 1 * 10 ^ r.length ≤ (c.toNat - 48) * 10 ^ r.length := Nat.mul_le_mul_right _ (by omega)
   have e : val (c :: r) = valA (c.toNat - 48) r := by rw [val_valA, valA_cons]; simp
   rw [e]
   have h9 : (10 : Nat) ^ 16 = 10000000000000000 := by decide
   omega
theorem parse_form (s : List UInt8) : parse s = if canonB s = false then (0, 2) else if 9007199254740992 < val (body s) then (0, 5) else (if s.getD 0 0 == 45 then -(val (body s) : Int) else (val (body s) : Int), 0) := by
 have e : parse s = if (!digits (body s) || (s.getD 0 0 == 45 && body s == [48])) = true then (0, 2) else if 16 < (body s).length then (0, 5) else if 9007199254740992 < val (body s) then (0, 5) else (if s.getD 0 0 == 45 then -(val (body s) : Int) else (val (body s) : Int), 0) := rfl
 rw [e]
 unfold canonB
 cases hd : digits (body s)
 ·simp
 ·cases hm : (s.getD 0 0 == 45 && body s == [48])
  ·simp only [Bool.not_true, Bool.or_false, Bool.false_eq_true, if_false, Bool.not_false, Bool.and_self, Bool.true_eq_false]
   split
   ·next hl => rw [if_pos (digits_long hd hl)]
   ·rfl
  ·simp
theorem parseIntB_canon (s : List UInt8) (h : canonB s = true) :
  (val (body s) ≤ 9007199254740992 ∧ parseIntB 64 s = .ok (if s.getD 0 0 == 45 then -(val (body s) : Int) else (val (body s) : Int))) ∨
  (9007199254740992 < val (body s) ∧ (parseIntB 64 s = .range ∨ ∃ v, parseIntB 64 s = .ok v ∧ ¬ (-9007199254740992 ≤ v ∧ v ≤ 9007199254740992))) := by
 unfold canonB at h
 rw [Bool.and_eq_true] at h
 obtain ⟨hd, _⟩ := h
 cases s with
 | nil => simp [body, digits] at hd
 | cons c r =>
  have hne : body (c :: r) ≠ [] := by
   intro e
   rw [e] at hd
   simp [digits] at hd
  have hall : (body (c :: r)).all digB = true := by
   unfold digits at hd
   rw [Bool.and_eq_true] at hd
   exact hd.1
  have hneg : ((c :: r).getD 0 0 == 45) = decide (c.toNat = 45) := by
   show (c == 45) = _
   rw [Bool.eq_iff_iff, beq_iff_eq, decide_eq_true_eq]
   exact ⟨fun e => by rw [e]; rfl, fun e => UInt8.toNat_inj.1 (by simpa using e)⟩
  have h43 : c.toNat ≠ 43 := by
   intro e
   have e2 : ((c :: r).getD 0 0 == 45) = false := by rw [hneg]; simp [e]
   unfold body at hall
   rw [e2] at hall
   simp only [Bool.false_eq_true, if_false, List.all_cons, Bool.and_eq_true, digB_iff] at hall
   omega
  have hb : (if c.toNat = 43 ∨ c.toNat = 45 then r else c :: r) = body (c :: r) := by
   unfold body
   rw [hneg]
   by_cases e : c.toNat = 45
   ·simp [e]
   ·simp [e, h43]
  have hu : parseUintB 64 (body (c :: r)) = if val (body (c :: r)) ≤ 18446744073709551615 then .ok (val (body (c :: r))) else .range := by
   unfold parseUintB
   rw [if_neg hne]
   have := uintM_digits _ 0 hall
   rw [if_neg hne, ← val_valA] at this
   exact this
  have hp : parseIntB 64 (c :: r) = match parseUintB 64 (body (c :: r)) with
    | .syntax => .syntax
    | .range => .range
    | .ok u => if ¬ c.toNat = 45 ∧ 2 ^ (64 - 1) ≤ u then .range else if c.toNat = 45 ∧ 2 ^ (64 - 1) < u then .range else .ok (if c.toNat = 45 then -(u : Int) else u) := by
   rw [← hb]; rfl
  rw [hp, hu, hneg]
  have e63 : 2 ^ (64 - 1) = 9223372036854775808 := by decide
  rw [e63]
  generalize val (body (c :: r)) = u
  by_cases hm : u ≤ 9007199254740992
  ·refine .inl ⟨hm, ?_⟩
   rw [if_pos (by omega)]
   dsimp only
   rw [if_neg (by omega), if_neg (by omega)]
   simp
  ·refine .inr ⟨by omega, ?_⟩
   by_cases h64 : u ≤ 18446744073709551615
   ·rw [if_pos h64]
    dsimp only
    split
    ·exact .inl rfl
    ·split
     ·exact .inl rfl
     ·refine .inr ⟨_, rfl, ?_⟩
      split <;> omega
   ·rw [if_neg h64]
    exact .inl rfl
end Num
end Go.Proofs.YtnjkemakcejceaaGreatDoor

namespace Go.Proofs.YtnjkemakcejceaaGreatDoor
open Go.RowKit
open Go.Op (bytesLess)
set_option maxHeartbeats 4000000
namespace Num
theorem digB_int (c : UInt8) : digB c = (decide (48 ≤ (c.toNat : Int)) && decide ((c.toNat : Int) ≤ 57)) := by
 unfold digB
 have e1 : decide (48 ≤ c.toNat) = decide (48 ≤ (c.toNat : Int)) := decide_eq_decide.2 (by omega)
 have e2 : decide (c.toNat ≤ 57) = decide ((c.toNat : Int) ≤ 57) := decide_eq_decide.2 (by omega)
 rw [e1, e2]
theorem all_fail {s : List UInt8} {j : Nat} (hj : j < s.length) (h : digB (s.getD j 0) = false) : digits s = false := by
 have : s.all digB = false := by
  rw [List.all_eq_false]
  refine ⟨s[j], List.getElem_mem hj, ?_⟩
  have e : s.getD j 0 = s[j] := by simp [List.getD, hj]
  rw [e] at h; rw [h]; decide
 unfold digits
 rw [this]; rfl
theorem all_end {s : List UInt8} (h : ∀ k, k < s.length → digB (s.getD k 0) = true) : digits s = (s != [] && (s.getD 0 0 != 48 || s.length == 1)) := by
 have h1 : s.all digB = true := by
  rw [List.all_eq_true]
  intro x hx
  obtain ⟨j, hj, rfl⟩ := List.getElem_of_mem hx
  have := h j hj
  have e : s.getD j 0 = s[j] := by simp [List.getD, hj]
  rwa [e] at this
 unfold digits
 rw [h1, Bool.true_and]
 match s with
 | [] => rfl
 | [c] =>
  by_cases e : c = 48
  ·subst e; rfl
  ·have e1 : (c == 48) = false := by simp [e]
   have e2 : ([c] == [48]) = false := by simp [e]
   have e3 : (c != 48) = true := by simp [e]
   show ([c] == [48] || ([c] != [] && c != 48)) = ([c] != [] && (c != 48 || ([c].length == 1)))
   rw [e2, e3]; rfl
 | c :: d :: r => simp
end Num
namespace AX
def c_canon : AX.AFn := ⟨44, .seq (.reg false [⟨some 2, .mv (.c (.bool false)), none, []⟩]) (.seq (.seq (.reg false [⟨some 4, .mv (.t 0), none, []⟩, ⟨some 5, .len true (.t 4), none, []⟩, ⟨some 6, .bin .gtr (.t 5) (.c (.int .i64 0)), none, []⟩, ⟨some 7, .mv (.t 6), none, []⟩, ⟨some 8, .mv (.t 0), some (7, true), []⟩, ⟨some 9, .sidx (.t 8) (.c (.int .i64 0)), some (7, true), []⟩, ⟨some 10, .bin .eql (.t 9) (.c (.int .u8 45)), some (7, true), []⟩, ⟨some 11, .pick (.t 7) (.t 10) (.c (.bool false)), none, []⟩]) (.cond (.t 11) (.seq (.reg false [⟨some 12, .mv (.t 0), none, []⟩, ⟨some 13, .ssl (.t 12) (some (.c (.int .i64 1))) none, none, []⟩, ⟨some 0, .mv (.t 13), none, []⟩]) (.seq (.reg false [⟨some 14, .mv (.t 0), none, []⟩, ⟨some 15, .bin .eql (.t 14) (.c (.str [48])), none, []⟩]) (.cond (.t 15) (.seq (.reg false [⟨some 2, .mv (.c (.bool false)), none, []⟩]) (.ret)) (.skip)))) (.skip))) (.seq (.seq (.reg false [⟨some 16, .mv (.t 0), none, []⟩, ⟨some 17, .len true (.t 16), none, []⟩, ⟨some 18, .mv (.c (.int .i64 0)), none, []⟩]) (.block 0 (.loop (.seq (.reg false [⟨some 19, .bin .lss (.t 18) (.t 17), none, []⟩]) (.seq (.cond (.t 19) (.skip) (.exit 0)) (.seq (.block 1 (.seq (.reg false [⟨some 20, .mv (.t 18), none, []⟩, ⟨some 3, .mv (.t 20), none, []⟩]) (.seq (.reg false [⟨some 21, .mv (.t 0), none, []⟩, ⟨some 22, .mv (.t 3), none, []⟩, ⟨some 23, .sidx (.t 21) (.t 22), none, []⟩, ⟨some 24, .bin .lss (.t 23) (.c (.int .u8 48)), none, []⟩, ⟨some 25, .mv (.t 24), none, []⟩, ⟨some 26, .mv (.t 0), some (25, false), []⟩, ⟨some 27, .mv (.t 3), some (25, false), []⟩, ⟨some 28, .sidx (.t 26) (.t 27), some (25, false), []⟩, ⟨some 29, .bin .gtr (.t 28) (.c (.int .u8 57)), some (25, false), []⟩, ⟨some 30, .pick (.t 25) (.c (.bool true)) (.t 29), none, []⟩]) (.cond (.t 30) (.seq (.reg false [⟨some 2, .mv (.c (.bool false)), none, []⟩]) (.ret)) (.skip))))) (.reg false [⟨some 31, .bin .add (.t 18) (.c (.int .i64 1)), none, []⟩, ⟨some 18, .mv (.t 31), none, []⟩]))))))) (.seq (.reg false [⟨some 32, .mv (.t 0), none, []⟩, ⟨some 33, .bin .neq (.t 32) (.c (.str [])), none, []⟩, ⟨some 34, .mv (.t 33), none, []⟩, ⟨some 35, .mv (.t 0), some (34, true), []⟩, ⟨some 36, .sidx (.t 35) (.c (.int .i64 0)), some (34, true), []⟩, ⟨some 37, .bin .neq (.t 36) (.c (.int .u8 48)), some (34, true), []⟩, ⟨some 38, .mv (.t 37), some (34, true), []⟩, ⟨some 39, .mv (.t 0), some (38, false), []⟩, ⟨some 40, .len true (.t 39), some (38, false), []⟩, ⟨some 41, .bin .eql (.t 40) (.c (.int .i64 1)), some (38, false), []⟩, ⟨some 42, .pick (.t 38) (.c (.bool true)) (.t 41), some (34, true), []⟩, ⟨some 43, .pick (.t 34) (.t 42) (.c (.bool false)), none, []⟩, ⟨some 2, .mv (.t 43), none, []⟩]) (.ret)))), [.t 2]⟩
theorem h_canon : AX.compFn Tryz.prog 149 = some c_canon := by kernel_rfl
theorem u8_beq (c : UInt8) (n : UInt8) : ((c.toNat : Int) == (n.toNat : Int)) = (c == n) := by
 rw [Bool.eq_iff_iff, beq_iff_eq, beq_iff_eq]
 exact ⟨fun e => UInt8.toNat_inj.1 (by omega), fun e => by rw [e]⟩
theorem calls_bool {P : Program} {G : World → Prop} {f : FuncId} {args : List A} {vs : List Value} {w : World} {b : Bool} (hc : ACall P G f args ⟨[], []⟩ fun v _ => v = .bool b) (hG : ∀ w' : World, (∀ g, g < w.heap.size → w'.heap[g]? = w.heap[g]?) → G w')
  (ha : RepL (Ctx.of w) args vs) : Calls P f vs.toArray w fun e w' => e = .returned (.bool b) ∧ Below w.heap.size w w' := by
 refine (hc (Ctx.of w) vs (inv_of hG) ha).mono ?_
 rintro e w' ⟨C', h', v, cv, rfl, rfl, _, st, hr, rfl⟩
 rw [rep_bool] at hr; subst hr
 exact ⟨rfl, st.os, st.tape, st.output, st.size, fun g hg => st.frame g hg rfl fun t ht => by simp [Ctx.of] at ht⟩
theorem a_canon (s : List UInt8) (hl : s.length ≤ 2000000) (h : Hp) : ACall Tryz.prog GT 149 [.str s] h fun r h' => r = .bool (Num.canonB s) ∧ h' = h := by
 refine pcall ?_ rfl (by simp [A.pure, A.data]) h
 refine acall_of mixedT h_canon (by simp [c_canon]) ?_
 dsimp only [c_canon]
 obtain ⟨R, hR⟩ : ∃ R, Num.canonB s = R := ⟨_, rfl⟩
 rw [hR]
 unfold Num.canonB Num.body at hR
 by_cases hn : s = []
 ·subst hn
  have e0 : ¬ ((0 : Nat) : Int) > 0 := by decide
  have e1 : ¬ (0 : Int) < ((0 : Nat) : Int) := by decide
  have hR' : R = false := by rw [← hR]; rfl
  subst hR'
  (refine AX.run0 e0 ?_)
  refine go_once ?_
  (refine AX.run0 e1 ?_)
  exact ⟨_, le_refl _, rfl⟩
 have hpos : (s.length : Int) > 0 := by
  have := List.length_pos_iff.2 hn; omega
 have h0 : (0 : Int) < (s.length : Int) := hpos
 obtain ⟨c, hc⟩ : ∃ c, s.getD 0 0 = c := ⟨_, rfl⟩
 rw [hc] at hR
 have e45 : ((c.toNat : Int) == 45) = (c == 45) := u8_beq c 45
 have hbody : ∃ t : List UInt8, t = (if c == 45 then s.drop 1 else s) := ⟨_, rfl⟩
 obtain ⟨t, ht⟩ := hbody
 rw [← ht] at hR
 have htl : t.length ≤ 2000000 := by
  rw [ht]; split
  ·rw [List.length_drop]; omega
  ·exact hl
 have hgr : ∀ j : Nat, t.getD j 0 = t.getD j 0 := fun _ => rfl
 have h1le : (1 : Int) ≤ (s.length : Int) := by omega
 have z1 : (0 : Int) ≤ 1 := by decide
 have n1 : (1 : Int).toNat = 1 := rfl
 have n0 : (0 : Int).toNat = 0 := rfl
 have key : ∀ {G : Prop}, ((c == 45) = true → t = s.drop 1 → G) → ((c == 45) = false → t = s → G) → G := fun p q => by
  cases e : c == 45
  ·exact q e (by rw [ht, e]; rfl)
  ·exact p e (by rw [ht, e]; rfl)
 refine key (fun m1 m2 => ?_) (fun m1 m2 => ?_)
 ·rw [m1, Bool.true_and] at hR
  have m3 : s.drop 1 = t := m2.symm
  have e10 : ((c.toNat : Int) == 45) = true := by rw [e45, m1]
  cases h48 : t == [48]
  rotate_left
  ·rw [h48] at hR
   have hR' : R = false := by rw [← hR, Bool.not_true, Bool.and_false]
   subst hR'
   (refine AX.run0 (And.intro hpos (And.intro h0 (And.intro n0 (And.intro hc (And.intro e10 (And.intro h1le (And.intro z1 (And.intro n1 (And.intro m3 h48))))))))) ?_)
   exact ⟨_, le_refl _, rfl⟩
  rw [h48, Bool.not_false, Bool.and_true] at hR
  (refine AX.run0 (And.intro hpos (And.intro h0 (And.intro n0 (And.intro hc (And.intro e10 (And.intro h1le (And.intro z1 (And.intro n1 (And.intro m3 h48))))))))) ?_)
  refine awp_loop (fun mm ts h => ∃ (j : Nat), mm = t.length - j ∧ j ≤ t.length ∧ h = ⟨[], []⟩ ∧ (∀ k, k < j → Num.digB (t.getD k 0) = true) ∧ ts 0 = .str t ∧ ts 17 = .int .i64 (t.length : Nat) ∧ ts 18 = .int .i64 (j : Nat)) t.length ?_ ?_
  ·exact ⟨0, by omega, by omega, rfl, fun k hk => absurd hk (Nat.not_lt_zero k), by (exact AX.ev0 m3), by (exact AX.ev0 m3), by (exact AX.inv0 True.intro)⟩
  rintro mm ts h ⟨j, rfl, hjc, rfl, hok, t0, t17, t18⟩
  by_cases hj : j < t.length
  ·have hlt : (j : Int) < (t.length : Int) := by omega
   have hj0 : (0 : Int) ≤ (j : Int) := by omega
   have ei : IntKind.i64.wrap ((j : Int) + 1) = ((j + 1 : Nat) : Int) := by rw [wrap64 (by omega) (by omega)]; omega
   obtain ⟨b, hb⟩ : ∃ b, t.getD j 0 = b := ⟨_, rfl⟩
   have hdg := Num.digB_int b
   obtain ⟨x, hx⟩ : ∃ x : Int, (b.toNat : Int) = x := ⟨_, rfl⟩
   rw [hx] at hdg
   by_cases x1 : x < 48
   ·have hR' : R = false := by rw [← hR]; exact Num.all_fail hj (by rw [hb, hdg, decide_eq_false (by omega)]; rfl)
    subst hR'
    (refine AX.run0 (And.intro t0 (And.intro t17 (And.intro t18 (And.intro hlt (And.intro hj0 (And.intro hb (And.intro hx x1))))))) ?_)
    exact ⟨_, le_refl _, rfl⟩
   by_cases x2 : x > 57
   ·have hR' : R = false := by rw [← hR]; exact Num.all_fail hj (by rw [hb, hdg, decide_eq_true (show 48 ≤ x by omega), decide_eq_false (by omega)]; rfl)
    subst hR'
    (refine AX.run0 (And.intro t0 (And.intro t17 (And.intro t18 (And.intro hlt (And.intro hj0 (And.intro hb (And.intro hx (And.intro x1 x2)))))))) ?_)
    exact ⟨_, le_refl _, rfl⟩
   ·(refine AX.run0 (And.intro t0 (And.intro t17 (And.intro t18 (And.intro hlt (And.intro hj0 (And.intro hb (And.intro hx (And.intro x1 (And.intro x2 ei))))))))) ?_)
    refine ⟨t.length - (j + 1), by omega, j + 1, rfl, by omega, rfl, fun k hk => ?_, by (exact AX.ev0 t0), by (exact AX.ev0 t17), by (exact AX.ev0 ei)⟩
    by_cases e : k = j
    ·rw [e, hb, hdg, decide_eq_true (show 48 ≤ x by omega), decide_eq_true (show x ≤ 57 by omega)]; rfl
    ·exact hok k (by omega)
  ·have hlt : ¬ ((j : Int) < (t.length : Int)) := by omega
   have hje : j = t.length := by omega
   rw [hje] at hok
   have hE := Num.all_end hok
   rw [hR] at hE
   cases hnt : t != []
   ·rw [hnt, Bool.false_and] at hE
    subst hE
    (refine AX.run0 (And.intro t0 (And.intro t17 (And.intro t18 (And.intro hlt hnt)))) ?_)
    exact ⟨_, le_refl _, rfl⟩
   rw [hnt, Bool.true_and] at hE
   have hp2 : (0 : Int) < (t.length : Int) := by
    have : t ≠ [] := by simpa using hnt
    have := List.length_pos_iff.2 this; omega
   obtain ⟨b, hb⟩ : ∃ b, t.getD 0 0 = b := ⟨_, rfl⟩
   rw [hb] at hE
   have e48 : ((b.toNat : Int) != 48) = (b != 48) := congrArg (!·) (u8_beq b 48)
   cases hb48 : b != 48
   ·rw [hb48, Bool.false_or] at hE
    rw [hb48] at e48
    have el : ((t.length : Int) == 1) = (t.length == 1) := by
     rw [Bool.eq_iff_iff, beq_iff_eq, beq_iff_eq]; omega
    rw [← hE] at el
    (refine AX.run0 (And.intro t0 (And.intro t17 (And.intro t18 (And.intro hlt (And.intro hnt (And.intro hp2 (And.intro n0 (And.intro hb (And.intro e48 el))))))))) ?_)
    exact ⟨_, le_refl _, rfl⟩
   ·rw [hb48, Bool.true_or] at hE
    subst hE
    rw [hb48] at e48
    (refine AX.run0 (And.intro t0 (And.intro t17 (And.intro t18 (And.intro hlt (And.intro hnt (And.intro hp2 (And.intro n0 (And.intro hb e48)))))))) ?_)
    exact ⟨_, le_refl _, rfl⟩
 ·have e10 : ((c.toNat : Int) == 45) = false := by rw [e45, m1]
  rw [m1, Bool.false_and, Bool.not_false, Bool.and_true] at hR
  have m3 : s = t := m2.symm
  (refine AX.run0 (And.intro hpos (And.intro h0 (And.intro n0 (And.intro hc e10)))) ?_)
  refine awp_loop (fun mm ts h => ∃ (j : Nat), mm = t.length - j ∧ j ≤ t.length ∧ h = ⟨[], []⟩ ∧ (∀ k, k < j → Num.digB (t.getD k 0) = true) ∧ ts 0 = .str t ∧ ts 17 = .int .i64 (t.length : Nat) ∧ ts 18 = .int .i64 (j : Nat)) t.length ?_ ?_
  ·exact ⟨0, by omega, by omega, rfl, fun k hk => absurd hk (Nat.not_lt_zero k), by (exact AX.ev0 m3), by (exact AX.ev0 m3), by (exact AX.inv0 True.intro)⟩
  rintro mm ts h ⟨j, rfl, hjc, rfl, hok, t0, t17, t18⟩
  by_cases hj : j < t.length
  ·have hlt : (j : Int) < (t.length : Int) := by omega
   have hj0 : (0 : Int) ≤ (j : Int) := by omega
   have ei : IntKind.i64.wrap ((j : Int) + 1) = ((j + 1 : Nat) : Int) := by rw [wrap64 (by omega) (by omega)]; omega
   obtain ⟨b, hb⟩ : ∃ b, t.getD j 0 = b := ⟨_, rfl⟩
   have hdg := Num.digB_int b
   obtain ⟨x, hx⟩ : ∃ x : Int, (b.toNat : Int) = x := ⟨_, rfl⟩
   rw [hx] at hdg
   by_cases x1 : x < 48
   ·have hR' : R = false := by rw [← hR]; exact Num.all_fail hj (by rw [hb, hdg, decide_eq_false (by omega)]; rfl)
    subst hR'
    (refine AX.run0 (And.intro t0 (And.intro t17 (And.intro t18 (And.intro hlt (And.intro hj0 (And.intro hb (And.intro hx x1))))))) ?_)
    exact ⟨_, le_refl _, rfl⟩
   by_cases x2 : x > 57
   ·have hR' : R = false := by rw [← hR]; exact Num.all_fail hj (by rw [hb, hdg, decide_eq_true (show 48 ≤ x by omega), decide_eq_false (by omega)]; rfl)
    subst hR'
    (refine AX.run0 (And.intro t0 (And.intro t17 (And.intro t18 (And.intro hlt (And.intro hj0 (And.intro hb (And.intro hx (And.intro x1 x2)))))))) ?_)
    exact ⟨_, le_refl _, rfl⟩
   ·(refine AX.run0 (And.intro t0 (And.intro t17 (And.intro t18 (And.intro hlt (And.intro hj0 (And.intro hb (And.intro hx (And.intro x1 (And.intro x2 ei))))))))) ?_)
    refine ⟨t.length - (j + 1), by omega, j + 1, rfl, by omega, rfl, fun k hk => ?_, by (exact AX.ev0 t0), by (exact AX.ev0 t17), by (exact AX.ev0 ei)⟩
    by_cases e : k = j
    ·rw [e, hb, hdg, decide_eq_true (show 48 ≤ x by omega), decide_eq_true (show x ≤ 57 by omega)]; rfl
    ·exact hok k (by omega)
  ·have hlt : ¬ ((j : Int) < (t.length : Int)) := by omega
   have hje : j = t.length := by omega
   rw [hje] at hok
   have hE := Num.all_end hok
   rw [hR] at hE
   cases hnt : t != []
   ·rw [hnt, Bool.false_and] at hE
    subst hE
    (refine AX.run0 (And.intro t0 (And.intro t17 (And.intro t18 (And.intro hlt hnt)))) ?_)
    exact ⟨_, le_refl _, rfl⟩
   rw [hnt, Bool.true_and] at hE
   have hp2 : (0 : Int) < (t.length : Int) := by
    have : t ≠ [] := by simpa using hnt
    have := List.length_pos_iff.2 this; omega
   obtain ⟨b, hb⟩ : ∃ b, t.getD 0 0 = b := ⟨_, rfl⟩
   rw [hb] at hE
   have e48 : ((b.toNat : Int) != 48) = (b != 48) := congrArg (!·) (u8_beq b 48)
   cases hb48 : b != 48
   ·rw [hb48, Bool.false_or] at hE
    rw [hb48] at e48
    have el : ((t.length : Int) == 1) = (t.length == 1) := by
     rw [Bool.eq_iff_iff, beq_iff_eq, beq_iff_eq]; omega
    rw [← hE] at el
    (refine AX.run0 (And.intro t0 (And.intro t17 (And.intro t18 (And.intro hlt (And.intro hnt (And.intro hp2 (And.intro n0 (And.intro hb (And.intro e48 el))))))))) ?_)
    exact ⟨_, le_refl _, rfl⟩
   ·rw [hb48, Bool.true_or] at hE
    subst hE
    rw [hb48] at e48
    (refine AX.run0 (And.intro t0 (And.intro t17 (And.intro t18 (And.intro hlt (And.intro hnt (And.intro hp2 (And.intro n0 (And.intro hb e48)))))))) ?_)
    exact ⟨_, le_refl _, rfl⟩
end AX
theorem numParse_any (l : List UInt8) (hl : l.length ≤ 2000000) (w : World) (g : GT w) :
  Calls Tryz.prog 114 #[.string ⟨l.toArray⟩] w fun e w' => e = .returned (.tuple #[.int .i64 (Num.parse l).1, .int .i64 (Num.parse l).2]) ∧ Below w.heap.size w w' := by
 have hc := AX.calls_bool (w := w) (vs := [.string ⟨l.toArray⟩]) ((AX.a_canon l hl ⟨[], []⟩).mono fun v h' hv => hv.1) (AX.gt_keep g) (AX.repL_cons.2 ⟨_, _, rfl, AX.rep_str.2 rfl, AX.repL_nil.2 rfl⟩)
 have hf := Num.parse_form l
 obtain ⟨P1, hP1⟩ : ∃ p, Num.parse l = p := ⟨_, rfl⟩
 rw [hP1] at hf ⊢
 cases hB : Num.canonB l
 ·rw [hB, if_pos rfl] at hf
  subst hf
  rw [hB] at hc
  go_enter Tryz.func114, Tryz.ntmps114
  go_wp2_with fail
  refine hc.mono ?_; rintro e w1 ⟨rfl, b1⟩
  have B1 := kept b1; clear b1
  go_wp2
  refine bodyPost_ret (v := .tuple #[.int .i64 0, .int .i64 2]) (by simp [results, Tryz.results114, go_sem]) rfl ⟨rfl, B1.out⟩
 ·rw [hB, if_neg (by decide)] at hf
  rw [hB] at hc
  have hsz : (⟨l.toArray⟩ : ByteArray).size ≤ 9223372036854775806 := by rw [size_mk]; omega
  have hlim : (⟨l.toArray⟩ : ByteArray).size ≤ 281474976710656 := by rw [size_mk]; omega
  have hsyn := g.esyn
  obtain ⟨ev, hev, hev2⟩ := g.erng
  have nilne : ∀ (a b : Value), True := fun _ _ => True.intro
  rcases Num.parseIntB_canon l hB with ⟨h1, h2⟩ | ⟨h1, h2 | ⟨v, h2, h3⟩⟩
  ·rw [if_neg (by omega)] at hf
   obtain ⟨v, hv⟩ : ∃ v : Int, (if l.getD 0 0 == 45 then -(Num.val (Num.body l) : Int) else (Num.val (Num.body l) : Int)) = v := ⟨_, rfl⟩
   rw [hv] at h2 hf
   have hvr : -9007199254740992 ≤ v ∧ v ≤ 9007199254740992 := by rw [← hv]; split <;> omega
   have hp : ∀ w' : World, Calls Tryz.prog 150 #[.string ⟨l.toArray⟩, .int .i64 10, .int .i64 64] w' fun e w2 => e = .returned (.tuple #[.int .i64 v, .nilIface]) ∧ (w2 = w' ∨ ∃ t, w2 = Lib.bytesWorld w' 5 t) := fun w' => Any.strconv_ParseInt_10_at64_ok (P := Tryz.prog) Tryz.lays174 ⟨l.toArray⟩ hsz v h2 w'
   have Hnv := kept (fun w' => numValid_any v w')
   rw [decide_eq_true hvr] at Hnv
   subst hf
   have Hp := kept hp
   clear hp hsz hlim hsyn hev hev2 hvr hv h1 h2 hB
   go_enter Tryz.func114, Tryz.ntmps114
   go_wp2_with fail
   refine hc.mono ?_; rintro e w1 ⟨rfl, b1⟩
   have B1 := kept b1; clear b1
   go_wp2_with fail
   (with_reducible refine (Hp.out _).mono ?_); rintro e w2 ⟨rfl, hw⟩
   have B2 : Kept (Below w.heap.size w w2) := kept (by
    rcases hw with rfl | ⟨t, rfl⟩
    ·exact B1.out
    ·exact bthen B1.out (Lib.bytesWorld_below _ _ _))
   clear hw
   go_wp2_with fail
   (with_reducible refine (Hnv.out _).mono ?_); rintro e w3 ⟨rfl, rfl⟩
   go_wp2
   refine bodyPost_ret (v := .tuple #[.int .i64 v, .int .i64 0]) (by simp [results, Tryz.results114, go_sem]) rfl ⟨rfl, B2.out⟩
  ·rw [if_pos (by omega)] at hf
   have hp : ∀ w' : World, w'.cell? ⟨4, 0, none⟩ = some ev → Calls Tryz.prog 150 #[.string ⟨l.toArray⟩, .int .i64 10, .int .i64 64] w' fun e w2 => (∃ a b c, e = .returned (.tuple #[.int .i64 a, .iface b c])) ∧ Below w'.heap.size w' w2 := fun w' hv => (Any.strconv_ParseInt_10_at64_range (P := Tryz.prog) Tryz.lays174 ⟨l.toArray⟩ hlim h2 ev w' hv hev2).mono fun e w2 ⟨N, q1, q2, q3, q4⟩ => ⟨⟨_, _, _, q1⟩, q4⟩
   subst hf
   have Hp := kept hp
   have Hev := kept hev
   clear hp hsz hlim hsyn hev hev2 h1 h2 hB
   go_enter Tryz.func114, Tryz.ntmps114
   go_wp2_with fail
   refine hc.mono ?_; rintro e w1 ⟨rfl, b1⟩
   have B1 := kept b1
   have Hev1 := kept (show w1.cell? ⟨4, 0, none⟩ = some ev from by rw [← Hev.out]; simp only [World.cell?, b1.block _ (cell_there Hev.out).2])
   clear b1
   go_wp2_with fail
   (with_reducible refine (Hp.out _ Hev1.out).mono ?_); rintro e w2 ⟨⟨a, b, c, rfl⟩, b2⟩
   have B2 : Kept (Below w.heap.size w w2) := kept (bthen B1.out b2)
   clear b2
   go_wp2
   refine bodyPost_ret (v := .tuple #[.int .i64 0, .int .i64 5]) (by simp [results, Tryz.results114, go_sem]) rfl ⟨rfl, B2.out⟩
  ·rw [if_pos (by omega)] at hf
   have hp : ∀ w' : World, Calls Tryz.prog 150 #[.string ⟨l.toArray⟩, .int .i64 10, .int .i64 64] w' fun e w2 => e = .returned (.tuple #[.int .i64 v, .nilIface]) ∧ (w2 = w' ∨ ∃ t, w2 = Lib.bytesWorld w' 5 t) := fun w' => Any.strconv_ParseInt_10_at64_ok (P := Tryz.prog) Tryz.lays174 ⟨l.toArray⟩ hsz v h2 w'
   have Hnv := kept (fun w' => numValid_any v w')
   rw [decide_eq_false h3] at Hnv
   subst hf
   have Hp := kept hp
   clear hp hsz hlim hsyn hev hev2 h3 h1 h2 hB
   go_enter Tryz.func114, Tryz.ntmps114
   go_wp2_with fail
   refine hc.mono ?_; rintro e w1 ⟨rfl, b1⟩
   have B1 := kept b1; clear b1
   go_wp2_with fail
   (with_reducible refine (Hp.out _).mono ?_); rintro e w2 ⟨rfl, hw⟩
   have B2 : Kept (Below w.heap.size w w2) := kept (by
    rcases hw with rfl | ⟨t, rfl⟩
    ·exact B1.out
    ·exact bthen B1.out (Lib.bytesWorld_below _ _ _))
   clear hw
   go_wp2_with fail
   (with_reducible refine (Hnv.out _).mono ?_); rintro e w3 ⟨rfl, rfl⟩
   go_wp2
   refine bodyPost_ret (v := .tuple #[.int .i64 0, .int .i64 5]) (by simp [results, Tryz.results114, go_sem]) rfl ⟨rfl, B2.out⟩
theorem AX.a_numParse (s : List UInt8) (hl : s.length ≤ 2000000) (h : AX.Hp) : AX.ACall Tryz.prog GT 114 [.str s] h fun r h' => r = .tup [.int .i64 (Num.parse s).1, .int .i64 (Num.parse s).2] ∧ h' = h :=
 AX.acall_imp (AX.args1 AX.r_str) (fun w hg => numParse_any s hl w hg) (fun C => AX.rep_tup.2 ⟨_, rfl, AX.repL_cons.2 ⟨_, _, rfl, AX.rep_int.2 rfl, AX.repL_cons.2 ⟨_, _, rfl, AX.rep_int.2 rfl, AX.repL_nil.2 rfl⟩⟩⟩) h
end Go.Proofs.YtnjkemakcejceaaGreatDoor

namespace Go.Proofs.YtnjkemakcejceaaGreatDoor
open Go.RowKit Go.Lib
def stops : ByteArray := ⟨#[46, 91]⟩
theorem below_iter (w : World) (s : ByteArray) (p : Nat) : Below w.heap.size w (w.iter s p) := by
 refine ⟨rfl, rfl, rfl, ?_, fun g hg => ?_⟩
 ·show w.heap.size ≤ (w.heap.push (Obj.stringIter s p)).size
  simp
 ·show (w.heap.push (Obj.stringIter s p))[g]? = _
  rw [Array.getElem?_push, if_neg (by omega)]
set_option maxHeartbeats 2000000 in
set_option maxRecDepth 100000 in
theorem indexRune_err (w : World) : Calls Tryz.prog 187 #[.string stops, .int .i32 65533] w fun e w' => e = .returned (.int .i64 (-1)) ∧ Below w.heap.size w w' := by
 go_enter Tryz.func187, Tryz.ntmps187
 have hsz : stops.size = 2 := rfl
 go_wp2_with fail
 go_loopg [5, 6] 2 (fun g _ _ wx => ∃ i : Nat, i + g = 2 ∧ wx = w.iter stops i)
 case atStart => exact ⟨0, by omega, rfl⟩
 case round =>
  obtain ⟨i, hig, rfl⟩ := hrel
  cases gk with
  | zero =>
   obtain rfl : i = 2 := by omega
   have hnx := fun ty => run_next_end (P := Tryz.prog) w stops 2 ty (by decide)
   go_wp2
   go_ret
   exact ⟨rfl, below_iter w stops 2⟩
  | succ g =>
   have hi : i = 0 ∨ i = 1 := by omega
   rcases hi with rfl | rfl
   ·have hnx := fun ty => run_next_ascii (P := Tryz.prog) w stops 0 ty (by decide) (by decide)
    have e0 : ((stops[0]'(by decide)).toNat : Int) = 46 := rfl
    rw [e0] at hnx
    go_wp2
    go_roundg g
    case measure => omega
    case rel => exact ⟨1, by omega, rfl⟩
   ·have hnx := fun ty => run_next_ascii (P := Tryz.prog) w stops 1 ty (by decide) (by decide)
    have e0 : ((stops[1]'(by decide)).toNat : Int) = 91 := rfl
    rw [e0] at hnx
    go_wp2
    go_roundg g
    case measure => omega
    case rel => exact ⟨2, by omega, rfl⟩
set_option maxHeartbeats 2000000 in
set_option maxRecDepth 100000 in
theorem indexRune_hi (r : Int) (h0 : 128 ≤ r) (h1 : r ≤ 2147483647) (hr : r ≠ 65533) (w : World) : Calls Tryz.prog 187 #[.string stops, .int .i32 r] w fun e w' => e = .returned (.int .i64 (-1)) ∧ Below w.heap.size w w' := by
 go_enter Tryz.func187, Tryz.ntmps187
 have hsz : stops.size = 2 := rfl
 have c1 : decide (0 ≤ r) = true := decide_eq_true (by omega)
 have c2 : decide (r < 128) = false := decide_eq_false (by omega)
 have c3 : (r == 65533) = false := beq_eq_false_iff_ne.2 hr
 have Hv := kept (fun w => Tryz.utf8_ValidRune r w)
 cases hv : Lib.validRune r
 ·go_wp2_with fail
  (with_reducible refine (Hv.out _).mono ?_); rintro e w1 ⟨rfl, rfl⟩
  rw [hv]
  go_wp2
  go_ret
  exact ⟨rfl, Below.refl _ _⟩
 ·have hval : Utf8.valid r = true := by rw [Go.validRune_eq]; unfold Lib.validRune at hv; unfold Go.validRune; exact hv
  obtain ⟨f1, f2, f3⟩ := encode_facts r hval h0
  go_wp2_with fail
  (with_reducible refine (Hv.out _).mono ?_); rintro e w1 ⟨rfl, rfl⟩
  rw [hv]
  have e1 : IntKind.i64.wrap (((Utf8.encode r).size : Int) - 1) = (((Utf8.encode r).size - 1 : Nat) : Int) := by rw [show ((Utf8.encode r).size : Int) - 1 = (((Utf8.encode r).size - 1 : Nat) : Int) by omega]; exact Go.IntWalk.i64_in _ ⟨by omega, by omega⟩
  have hcv := fun (w : World) => run_convert_int_string (P := Tryz.prog) w 21 9 .i32 r rfl rfl
  go_wp2_with fail
  apply wp_scope_straight
  go_wp2
  go_loopg [9, 10, 11, 12] 1 (fun g v9 v10 v11 v12 wx => wx = w1 ∧ v9 = .int .i64 (((Utf8.encode r).size - 1 : Nat) : Int))
  case atStart => exact ⟨rfl, rfl⟩
  case round =>
   obtain ⟨rfl, rfl⟩ := hrel
   by_cases h2 : (Utf8.encode r).size = 2
   ·have e2 : (Utf8.encode r).size - 1 = 1 := by omega
    obtain ⟨x, hx⟩ : ∃ x : UInt8, (Utf8.encode r)[1]'(by omega) = x := ⟨_, rfl⟩
    have hx1 : 128 ≤ x.toNat := by
     have := f3 (by omega)
     simp only [e2] at this
     rw [hx] at this; exact this
    have hi1 : (1 : Nat) < (Utf8.encode r).size := by omega
    have hs1 : (stops[1]'(by decide)).toNat = 91 := rfl
    have hne : ((91 : Int) != (x.toNat : Int)) = true := by simp; omega
    have e3 : (((Utf8.encode r).size - 1 : Nat) : Int) = 1 := by omega
    have hi2 : (1 : Int) < ((Utf8.encode r).size : Int) := by omega
    rw [e3]
    go_wp2
    apply wp_scope_straight
    go_wp2_with fail
    go_region
    have hw2 : IntKind.i64.wrap ((1 : Int) + 1) = 2 := rfl
    have hib0 : Lib.indexByte [] x = -1 := rfl
    go_wp2_with fail
    go_region_with ((with_reducible refine (Tryz.strings_IndexByte _ _ _).mono ?_); rintro e2 w2 ⟨rfl, rfl⟩)
    all_goals
     go_wp2
     rw [Exit.noGoto_ret]
     go_wp2
     rw [Exit.noGoto_ret]
     go_wp2
     go_ret
     first | exact ⟨rfl, below_drewN (Below.refl _ _) 2⟩ | exact ⟨rfl, below_drewN _ 2⟩
   ·have hlt : ¬ ((((Utf8.encode r).size - 1 : Nat) : Int) < (stops.size : Int)) := by omega
    go_wp2
    go_ret
    exact ⟨rfl, Below.refl _ _⟩
theorem decode_conts (s : ByteArray) (i j : Nat) (h1 : 1 ≤ j) (hj : j < (Utf8.decode s i).2) : i + j < s.size ∧ 128 ≤ (s.get! (i + j)).toNat := by
 unfold Utf8.decode at hj
 dsimp only at hj
 split at hj
 ·simp only at hj; omega
 ·split at hj
  ·next h =>
   simp only [Bool.and_eq_true, decide_eq_true_eq, beq_iff_eq] at h
   split at hj
   ·simp only at hj
    obtain rfl : j = 1 := by omega
    omega
   ·simp only at hj; omega
  ·split at hj
   ·next h =>
    simp only [Bool.and_eq_true, decide_eq_true_eq, beq_iff_eq] at h
    split at hj
    ·simp only at hj
     have : j = 1 ∨ j = 2 := by omega
     rcases this with rfl | rfl <;> omega
    ·simp only at hj; omega
   ·split at hj
    ·next h =>
     simp only [Bool.and_eq_true, decide_eq_true_eq, beq_iff_eq] at h
     split at hj
     ·simp only at hj
      have : j = 1 ∨ j = 2 ∨ j = 3 := by omega
      rcases this with rfl | rfl | rfl <;> omega
     ·simp only at hj; omega
    ·simp only at hj; omega
theorem indexRune_any (r : Int) (h0 : 128 ≤ r) (h1 : r ≤ 2147483647) (w : World) : Calls Tryz.prog 187 #[.string stops, .int .i32 r] w fun e w' => e = .returned (.int .i64 (-1)) ∧ Below w.heap.size w w' := by
 by_cases h : r = 65533
 ·subst h; exact indexRune_err w
 ·exact indexRune_hi r h0 h1 h w
theorem noAny_skip {s : ByteArray} {i : Nat} (hi : i < s.size) (hx : 128 ≤ (s[i]'hi).toNat) (h : Lib.NoAny s.data.toList stops.data.toList i) : Lib.NoAny s.data.toList stops.data.toList (i + (Utf8.decode s i).2) ∧ i + (Utf8.decode s i).2 ≤ s.size ∧ 1 ≤ (Utf8.decode s i).2 := by
 have hd := (decode_high s i hi hx).2
 refine ⟨fun j b hj hb => ?_, ?_, hd⟩
 ·by_cases hji : j < i
  ·exact h j b hji hb
  ·have hjs : j < s.size := by
    have := (List.getElem?_eq_some_iff.1 hb).1
    simpa using this
   have hb' : b = s[j]'hjs := by
    have := Lib.data_getElem? s j hjs
    rw [this] at hb; exact (Option.some.inj hb).symm
   have h128 : 128 ≤ b.toNat := by
    by_cases hji2 : j = i
    ·subst hji2; rw [hb']; exact hx
    ·have := (decode_conts s i (j - i) (by omega) (by omega)).2
     rw [show i + (j - i) = j by omega] at this
     rw [hb']
     have e : s.get! j = s[j]'hjs := get_at s j hjs
     rw [e] at this; exact this
   have hne : b ≠ 46 ∧ b ≠ 91 := by
    constructor
    ·rintro rfl; exact absurd h128 (by decide)
    ·rintro rfl; exact absurd h128 (by decide)
   show [(46 : UInt8), 91].contains b = false
   simp [hne.1, hne.2]
 ·by_cases h1 : (Utf8.decode s i).2 = 1
  ·omega
  ·have := (decode_conts s i ((Utf8.decode s i).2 - 1) (by omega) (by omega)).1
   omega
set_option maxHeartbeats 2000000 in
set_option maxRecDepth 100000 in
theorem indexAny_short (s : ByteArray) (w : World) (h8 : s.size ≤ 8) : Calls Tryz.prog 159 #[.string s, .string stops] w fun e w' => e = .returned (.int .i64 (Lib.indexAny s.data.toList stops.data.toList)) ∧ Below w.heap.size w w' := by
 have hss : stops.size = 2 := rfl
 have hemp : stops.toList.isEmpty = false := by rw [Lib.toList_data]; rfl
 have hn1 : ((stops.size : Int) == 1) = false := rfl
 have h8z : decide ((8 : Int) < (s.size : Int)) = false := decide_eq_false (by omega)
 go_enter Tryz.func159, Tryz.ntmps159
 go_wp2_with fail
 (with_reducible refine (Tryz.strings_shouldUseASCIISet _ _).mono ?_); rintro e w1 ⟨rfl, rfl⟩
 rw [h8z]
 go_wp2_with fail
 go_loopg [9, 10] s.size (fun g _ _ wx => ∃ i : Nat, s.size ≤ i + g ∧ i ≤ s.size ∧ wx.heap[w1.heap.size]? = some (.stringIter s i) ∧ Below w1.heap.size w1 wx ∧ Lib.NoAny s.data.toList stops.data.toList i)
 case atStart => exact ⟨0, by omega, by omega, World.iter_heap _ _ _, below_iter _ _ _, Lib.NoAny.zero _ _⟩
 case round =>
  obtain ⟨i, hig, his, hit, hbel, hno⟩ := hrel
  by_cases hi : i < s.size
  ·cases gk with
   | zero => omega
   | succ g =>
    obtain ⟨x, hx⟩ : ∃ x : UInt8, s[i]'hi = x := ⟨_, rfl⟩
    have hxl : s.data.toList[i]? = some x := by rw [← hx]; exact Lib.data_getElem? s i hi
    by_cases ha : x.toNat < 128
    ·have hnx := fun ty => run_next_ascii_at (P := Tryz.prog) wr w1.heap.size s i ty hit hi (by rw [hx]; exact ha)
     rw [hx] at hnx
     have Hit := kept (iterAt_heap wr w1.heap.size s i (i + 1) hit)
     have Hbel := kept (below_iterAt hbel (Nat.le_refl _) s (i + 1))
     have Hno := kept hno
     have Hxl := kept hxl
     have hcon := Lib.contains_iff_indexByte stops.data.toList x
     have hback : ((x.toNat : Int)).toNat.toUInt8 = x := by simp
     have Hx := kept hx
     clear hit hbel hno hxl hx
     cases hin : stops.data.toList.contains x
     ·rw [hin] at hcon
      have hlt : ¬ ((0 : Int) ≤ Lib.indexByte stops.data.toList x) := of_decide_eq_false hcon.symm
      clear hcon
      go_wp2_with fail
      (with_reducible refine (Tryz.strings_IndexRune_ascii _ _ _ (by omega) (by omega)).mono ?_); rintro e w2 ⟨rfl, rfl⟩
      rw [hback]
      go_wp2
      go_roundg g
      case measure => omega
      case rel => exact ⟨i + 1, by omega, by omega, Hit.out, Hbel.out, Hno.out.succ Hxl.out hin⟩
     ·rw [hin] at hcon
      have hge : (0 : Int) ≤ Lib.indexByte stops.data.toList x := of_decide_eq_true hcon.symm
      clear hcon
      go_wp2_with fail
      (with_reducible refine (Tryz.strings_IndexRune_ascii _ _ _ (by omega) (by omega)).mono ?_); rintro e w2 ⟨rfl, rfl⟩
      rw [hback]
      go_wp2
      go_ret
      exact ⟨by rw [Lib.indexAny_hit Hno.out Hxl.out hin]; rfl, Hbel.out⟩
    ·have hx128 : 128 ≤ (s[i]'hi).toNat := by rw [hx]; omega
     obtain ⟨k1, k2, k3⟩ := noAny_skip hi hx128 hno
     have d1 := (decode_high s i hi hx128).1
     have d2 := decode_le s i
     have hnx := fun ty => run_next_any_at (P := Tryz.prog) wr w1.heap.size s i ty hit hi
     obtain ⟨⟨c, d⟩, hcd⟩ : ∃ p, Utf8.decode s i = p := ⟨_, rfl⟩
     rw [hcd] at k1 k2 k3 d1 d2 hnx
     dsimp only at k1 k2 k3 d1 d2 hnx
     have Hit := kept (iterAt_heap wr w1.heap.size s i (i + d) hit)
     have Hbel := kept (below_iterAt hbel (Nat.le_refl _) s (i + d))
     have K1 := kept k1
     clear hit hbel hno hxl hx hx128 hcd k1
     go_wp2_with fail
     (with_reducible refine (indexRune_any _ (by omega) (by omega) _).mono ?_); rintro e w2 ⟨rfl, b2⟩
     have hit2 : w2.heap[w1.heap.size]? = some (.stringIter s (i + d)) := by rw [b2.block _ (Array.getElem?_eq_some_iff.1 Hit.out).1]; exact Hit.out
     have Hit2 := kept hit2
     have Hbel2 := kept (Hbel.out.trans (b2.mono (by have := Hbel.out.size; exact this)))
     clear hit2 b2
     go_wp2
     go_roundg g
     case measure => omega
     case rel => exact ⟨i + d, by omega, by omega, Hit2.out, Hbel2.out, K1.out⟩
  ·obtain rfl : i = s.size := by omega
   have hnx := fun ty => run_next_end_at (P := Tryz.prog) wr w1.heap.size s s.size ty hit (by omega)
   have Hno := kept hno
   have Hbel := kept hbel
   clear hno hbel
   go_wp2
   go_ret
   exact ⟨by rw [Lib.indexAny_none (by rw [← Lib.size_eq]; exact Hno.out)]; rfl, Hbel.out⟩
set_option maxHeartbeats 8000000 in
set_option maxRecDepth 1000000 in
theorem indexAny_long (s : ByteArray) (h8 : 8 < s.size) (hs : s.size ≤ 9223372036854775807) (w : World) : Calls Tryz.prog 159 #[.string s, .string stops] w fun e w' => e = .returned (.int .i64 (Lib.indexAny s.data.toList stops.data.toList)) ∧ Below w.heap.size w w' := by
 have hz := zero_of_info (P := Tryz.prog) (t := 228) (n := 256) (v := .agg (Array.replicate 256 (.bool false))) (by kernel_rfl)
 obtain ⟨cells, hcells⟩ : ∃ c, Lib.setCells stops.data.toList = c := ⟨_, rfl⟩
 have hasc : ∀ (j : Nat) b, stops.data.toList[j]? = some b → b.toNat < 128 := by
  intro j b hb
  match j, hb with
  | 0, hb => cases hb; decide
  | 1, hb => cases hb; decide
  | j + 2, hb => simp [stops] at hb
 have Hset := kept (Tryz.strings_makeASCIISet hz.1 stops w (by decide) hasc)
 obtain ⟨W, hW⟩ : ∃ W, (w.alloc (.cells cells 228)).alloc (.cells cells 228) = W := ⟨_, rfl⟩
 have hbel : Below w.heap.size w W := by
  rw [← hW]
  exact ((Below.refl _ _).alloc (Nat.le_refl _) _).alloc (((Below.refl w.heap.size w).alloc (Nat.le_refl _) (.cells cells 228)).size) _
 have hcell : ∀ x : UInt8, W.cell? ⟨w.heap.size + 1, x.toNat, none⟩ = some (.bool (stops.data.toList.contains x)) := fun x => by
  rw [← hW, World.cell?_alloc_at _ _ _ _ (by simp), ← hcells, Lib.setCells_at]
 have hst : (storeCells ⟨w.heap.size + 1, 0, none⟩ cells.toList 0).run Tryz.prog ((w.alloc (.cells cells 228)).alloc (.cells (Array.replicate 256 (.bool false)) 228)) = .ok () W := by
  have := run_storeCells_new (P := Tryz.prog) (w.alloc (.cells cells 228)) 228 (Array.replicate 256 (.bool false)) cells (by rw [← hcells, Lib.setCells_size]; exact hz.2) (by rw [← hcells, Lib.setCells_size, Array.size_replicate]) (by rw [← hcells]; exact Lib.setCells_one _)
  rw [hW] at this
  simpa using this
 have hemp : stops.toList.isEmpty = false := by rw [Lib.toList_data]; rfl
 have hn1 : ((stops.size : Int) == 1) = false := rfl
 have h8z : decide ((8 : Int) < (s.size : Int)) = true := decide_eq_true (by omega)
 have HC := kept hcell
 have HB := kept hbel
 clear hcell hbel
 rw [hcells] at Hset
 go_enter Tryz.func159, Tryz.ntmps159
 go_wp2_with fail
 (with_reducible refine (Tryz.strings_shouldUseASCIISet _ _).mono ?_); rintro e w1 ⟨rfl, rfl⟩
 rw [h8z]
 go_wp2_with fail
 (with_reducible refine Hset.out.mono ?_); rintro e w1 ⟨rfl, rfl⟩
 have hcsz : cells.size = 256 := by rw [← hcells]; exact Lib.setCells_size _
 have e0 : Tryz.zeroCells228 = Array.replicate 256 (.bool false) := by kernel_rfl
 go_wp2
 go_loopg [8] s.size (fun g s8 wx => ∃ i : Nat, i + g = s.size ∧ s8 = .int .i64 i ∧ wx = W ∧ Lib.NoAny s.data.toList stops.data.toList i)
 case atStart => exact ⟨0, by omega, rfl, rfl, Lib.NoAny.zero _ _⟩
 case round =>
  obtain ⟨i, hig, rfl, rfl, hno⟩ := hrel
  have HN := kept hno
  clear hno
  cases gk with
  | zero =>
   obtain rfl : i = s.size := by omega
   have hiz : ¬ ((s.size : Int) < (s.size : Int)) := by omega
   go_wp2
   go_ret
   exact ⟨by rw [Lib.indexAny_none (by rw [← Lib.size_eq]; exact HN.out)]; rfl, HB.out⟩
  | succ g =>
   have hi : i < s.size := by omega
   have hiz : (i : Int) < (s.size : Int) := by omega
   have hw : IntKind.i64.wrap ((i : Int) + 1) = (i : Int) + 1 := Go.IntWalk.i64_in _ ⟨by omega, by omega⟩
   obtain ⟨x, hx⟩ : ∃ x : UInt8, s[i]'hi = x := ⟨_, rfl⟩
   have hxl : s.data.toList[i]? = some x := by rw [← hx]; exact Lib.data_getElem? s i hi
   have Hxl := kept hxl
   clear hxl
   have hcx := HC.out x
   cases hin : stops.data.toList.contains x <;> rw [hin] at hcx
   ·go_wp2_with fail
    (with_reducible refine (Tryz.asciiSet_contains _ x _ _ hcx).mono ?_); rintro e w2 ⟨rfl, rfl⟩
    go_wp2
    go_roundg g
    case measure => omega
    case rel => exact ⟨i + 1, by omega, by first | rfl | simp, rfl, HN.out.succ Hxl.out hin⟩
   ·go_wp2_with fail
    (with_reducible refine (Tryz.asciiSet_contains _ x _ _ hcx).mono ?_); rintro e w2 ⟨rfl, rfl⟩
    go_wp2
    go_ret
    exact ⟨by rw [Lib.indexAny_hit HN.out Hxl.out hin]; rfl, HB.out⟩
theorem indexAny_any (s : ByteArray) (hs : s.size ≤ 9223372036854775807) (w : World) : Calls Tryz.prog 159 #[.string s, .string stops] w fun e w' => e = .returned (.int .i64 (Lib.indexAny s.data.toList stops.data.toList)) ∧ Below w.heap.size w w' := by
 by_cases h8 : s.size ≤ 8
 ·exact indexAny_short s w h8
 ·exact indexAny_long s (by omega) hs w
end Go.Proofs.YtnjkemakcejceaaGreatDoor

namespace Go.Proofs.YtnjkemakcejceaaGreatDoor
open Go.RowKit
set_option maxHeartbeats 4000000
namespace Adr
def first (k : Nat) (c : UInt8) : Bool := if k = 0 then letter c else wordB c
def idOk (j : Nat) (s : List UInt8) : Prop := ∀ k, k < j → first k (s.getD k 0) = true
theorem wordB_of_letter {c : UInt8} (h : letter c = true) : wordB c = true := by unfold wordB; rw [h]; rfl
theorem ident_fail {s : List UInt8} {j : Nat} (hj : j < s.length) (h : first j (s.getD j 0) = false) : ident s = false := by
 unfold ident
 unfold first at h
 split at h
 ·next e =>
  subst e
  rw [h]; simp
 ·have : s.all wordB = false := by
   rw [List.all_eq_false]
   refine ⟨s[j], List.getElem_mem hj, ?_⟩
   have e : s.getD j 0 = s[j] := by simp [List.getD, hj]
   rw [e] at h; rw [h]; decide
  simp [this]
theorem ident_end {s : List UInt8} (h : idOk s.length s) : ident s = (s != [] && decide (s.length ≤ 64)) := by
 unfold ident
 cases s with
 | nil => rfl
 | cons c t =>
  have h0 : letter ((c :: t).getD 0 0) = true := by
   have := h 0 (by simp)
   unfold first at this
   rwa [if_pos rfl] at this
  have h1 : (c :: t).all wordB = true := by
   rw [List.all_eq_true]
   intro x hx
   obtain ⟨j, hj, rfl⟩ := List.getElem_of_mem hx
   have := h j hj
   have e : (c :: t).getD j 0 = (c :: t)[j] := by rw [List.getD_eq_getElem?_getD, List.getElem?_eq_getElem hj]; rfl
   unfold first at this
   rw [e] at this
   split at this
   ·exact wordB_of_letter this
   ·exact this
  rw [h0, h1]
  simp
set_option maxRecDepth 100000 in
theorem or_letter : ∀ n : Fin 256, letter (UInt8.ofNat n.val) = !((((n.val : Nat) : Int) != 95) && (decide (bits .or .u8 ((n.val : Nat) : Int) 32 < 97) || decide (bits .or .u8 ((n.val : Nat) : Int) 32 > 122))) := by decide +kernel
theorem letter_or (c : UInt8) : letter c = !(((c.toNat : Int) != 95) && (decide (bits .or .u8 (c.toNat : Int) 32 < 97) || decide (bits .or .u8 (c.toNat : Int) 32 > 122))) := by
 have := or_letter ⟨c.toNat, c.toNat_lt⟩
 simpa using this
end Adr
namespace AX
def c_ident : AX.AFn := ⟨50, .seq (.reg false [⟨some 2, .mv (.c (.bool false)), none, []⟩]) (.seq (.seq (.reg false [⟨some 5, .mv (.t 0), none, []⟩, ⟨some 6, .len true (.t 5), none, []⟩, ⟨some 7, .mv (.c (.int .i64 0)), none, []⟩]) (.block 0 (.loop (.seq (.reg false [⟨some 8, .bin .lss (.t 7) (.t 6), none, []⟩]) (.seq (.cond (.t 8) (.skip) (.exit 0)) (.seq (.block 1 (.seq (.reg false [⟨some 9, .mv (.t 7), none, []⟩, ⟨some 3, .mv (.t 9), none, []⟩]) (.seq (.reg false [⟨some 10, .mv (.t 0), none, []⟩, ⟨some 11, .mv (.t 3), none, []⟩, ⟨some 12, .sidx (.t 10) (.t 11), none, []⟩, ⟨some 13, .bin .or (.t 12) (.c (.int .u8 32)), none, []⟩, ⟨some 4, .mv (.t 13), none, []⟩]) (.seq (.reg false [⟨some 14, .mv (.t 0), none, []⟩, ⟨some 15, .mv (.t 3), none, []⟩, ⟨some 16, .sidx (.t 14) (.t 15), none, []⟩, ⟨some 17, .bin .neq (.t 16) (.c (.int .u8 95)), none, []⟩, ⟨some 18, .mv (.t 17), none, []⟩, ⟨some 19, .mv (.t 4), some (18, true), []⟩, ⟨some 20, .bin .lss (.t 19) (.c (.int .u8 97)), some (18, true), []⟩, ⟨some 21, .mv (.t 20), some (18, true), []⟩, ⟨some 22, .mv (.t 4), some (21, false), []⟩, ⟨some 23, .bin .gtr (.t 22) (.c (.int .u8 122)), some (21, false), []⟩, ⟨some 24, .pick (.t 21) (.c (.bool true)) (.t 23), some (18, true), []⟩, ⟨some 25, .pick (.t 18) (.t 24) (.c (.bool false)), none, []⟩, ⟨some 26, .mv (.t 25), none, []⟩, ⟨some 27, .mv (.t 3), some (26, true), []⟩, ⟨some 28, .bin .eql (.t 27) (.c (.int .i64 0)), some (26, true), []⟩, ⟨some 29, .mv (.t 28), some (26, true), []⟩, ⟨some 30, .mv (.t 0), some (29, false), []⟩, ⟨some 31, .mv (.t 3), some (29, false), []⟩, ⟨some 32, .sidx (.t 30) (.t 31), some (29, false), []⟩, ⟨some 33, .bin .lss (.t 32) (.c (.int .u8 48)), some (29, false), []⟩, ⟨some 34, .pick (.t 29) (.c (.bool true)) (.t 33), some (26, true), []⟩, ⟨some 35, .mv (.t 34), some (26, true), []⟩, ⟨some 36, .mv (.t 0), some (35, false), []⟩, ⟨some 37, .mv (.t 3), some (35, false), []⟩, ⟨some 38, .sidx (.t 36) (.t 37), some (35, false), []⟩, ⟨some 39, .bin .gtr (.t 38) (.c (.int .u8 57)), some (35, false), []⟩, ⟨some 40, .pick (.t 35) (.c (.bool true)) (.t 39), some (26, true), []⟩, ⟨some 41, .pick (.t 26) (.t 40) (.c (.bool false)), none, []⟩]) (.cond (.t 41) (.seq (.reg false [⟨some 2, .mv (.c (.bool false)), none, []⟩]) (.ret)) (.skip)))))) (.reg false [⟨some 42, .bin .add (.t 7) (.c (.int .i64 1)), none, []⟩, ⟨some 7, .mv (.t 42), none, []⟩]))))))) (.seq (.reg false [⟨some 43, .mv (.t 0), none, []⟩, ⟨some 44, .bin .neq (.t 43) (.c (.str [])), none, []⟩, ⟨some 45, .mv (.t 44), none, []⟩, ⟨some 46, .mv (.t 0), some (45, true), []⟩, ⟨some 47, .len true (.t 46), some (45, true), []⟩, ⟨some 48, .bin .leq (.t 47) (.c (.int .i64 64)), some (45, true), []⟩, ⟨some 49, .pick (.t 45) (.t 48) (.c (.bool false)), none, []⟩, ⟨some 2, .mv (.t 49), none, []⟩]) (.ret))), [.t 2]⟩
theorem h_ident : AX.compFn Tryz.prog 82 = some c_ident := by kernel_rfl
def c_lcutp : AX.AFn := ⟨15, .seq (.reg false [⟨some 4, .mv (.c (.str [])), none, []⟩, ⟨some 5, .mv (.c (.bool false)), none, []⟩]) (.seq (.seq (.reg false [⟨some 6, .mv (.t 0), none, []⟩, ⟨some 7, .mv (.t 1), none, []⟩, ⟨some 8, .call 89 [.t 6, .t 7], none, []⟩, ⟨some 9, .un .not (.t 8), none, []⟩]) (.cond (.t 9) (.seq (.reg false [⟨some 10, .mv (.t 0), none, []⟩, ⟨some 4, .mv (.t 10), none, []⟩, ⟨some 5, .mv (.c (.bool false)), none, []⟩]) (.ret)) (.skip))) (.seq (.reg false [⟨some 11, .mv (.t 0), none, []⟩, ⟨some 12, .mv (.t 1), none, []⟩, ⟨some 13, .len true (.t 12), none, []⟩, ⟨some 14, .ssl (.t 11) (some (.t 13)) none, none, []⟩, ⟨some 4, .mv (.t 14), none, []⟩, ⟨some 5, .mv (.c (.bool true)), none, []⟩]) (.ret))), [.t 4, .t 5]⟩
theorem h_lcutp : AX.compFn Tryz.prog 186 = some c_lcutp := by kernel_rfl
def c_cutp : AX.AFn := ⟨11, .seq (.reg false [⟨some 4, .mv (.c (.str [])), none, []⟩, ⟨some 5, .mv (.c (.bool false)), none, []⟩]) (.seq (.reg false [⟨some 6, .mv (.t 0), none, []⟩, ⟨some 7, .mv (.t 1), none, []⟩, ⟨some 8, .call 186 [.t 6, .t 7], none, []⟩, ⟨some 9, .extract (.t 8) 0, none, []⟩, ⟨some 10, .extract (.t 8) 1, none, []⟩, ⟨some 4, .mv (.t 9), none, []⟩, ⟨some 5, .mv (.t 10), none, []⟩]) (.ret)), [.t 4, .t 5]⟩
theorem h_cutp : AX.compFn Tryz.prog 158 = some c_cutp := by kernel_rfl
def c_ahas : AX.AFn := ⟨21, .seq (.reg false [⟨some 4, .mv (.c (.bool false)), none, []⟩]) (.seq (.reg false [⟨some 8, .mv (.t 0), none, []⟩, ⟨some 9, .nilck (.t 8), none, []⟩, ⟨some 10, .faddr 0 (.t 9), none, []⟩, ⟨some 11, .load false 1 (.t 10), none, []⟩, ⟨some 12, .mv (.t 1), none, []⟩, ⟨some 13, .call 158 [.t 11, .t 12], none, []⟩, ⟨some 7, .mv (.t 13), none, []⟩, ⟨some 14, .extract (.t 7) 0, none, []⟩, ⟨some 15, .extract (.t 7) 1, none, []⟩, ⟨some 5, .mv (.t 14), none, []⟩, ⟨some 6, .mv (.t 15), none, []⟩]) (.seq (.reg false [⟨some 16, .mv (.t 0), none, []⟩, ⟨some 17, .mv (.t 5), none, []⟩, ⟨some 18, .nilck (.t 16), none, []⟩, ⟨some 19, .faddr 0 (.t 18), none, []⟩, ⟨none, .store 1 (.t 19) (.t 17), none, []⟩]) (.seq (.reg false [⟨some 20, .mv (.t 6), none, []⟩, ⟨some 4, .mv (.t 20), none, []⟩]) (.ret)))), [.t 4]⟩
theorem h_ahas : AX.compFn Tryz.prog 121 = some c_ahas := by kernel_rfl
def c_askip : AX.AFn := ⟨30, .seq (.reg false [⟨some 7, .mv (.t 0), none, []⟩, ⟨some 8, .nilck (.t 7), none, []⟩, ⟨some 9, .faddr 0 (.t 8), none, []⟩, ⟨some 10, .load false 1 (.t 9), none, []⟩, ⟨some 11, .mv (.t 1), none, []⟩, ⟨some 12, .call 158 [.t 10, .t 11], none, []⟩, ⟨some 6, .mv (.t 12), none, []⟩, ⟨some 13, .extract (.t 6) 0, none, []⟩, ⟨some 14, .extract (.t 6) 1, none, []⟩, ⟨some 4, .mv (.t 13), none, []⟩, ⟨some 5, .mv (.t 14), none, []⟩]) (.seq (.reg false [⟨some 15, .mv (.t 0), none, []⟩, ⟨some 16, .mv (.t 4), none, []⟩, ⟨some 17, .nilck (.t 15), none, []⟩, ⟨some 18, .faddr 0 (.t 17), none, []⟩, ⟨none, .store 1 (.t 18) (.t 16), none, []⟩]) (.reg false [⟨some 19, .mv (.t 0), none, []⟩, ⟨some 20, .mv (.t 0), none, []⟩, ⟨some 21, .nilck (.t 20), none, []⟩, ⟨some 22, .faddr 1 (.t 21), none, []⟩, ⟨some 23, .load false 1 (.t 22), none, []⟩, ⟨some 24, .mv (.t 23), none, []⟩, ⟨some 25, .mv (.t 5), some (24, false), []⟩, ⟨some 26, .un .not (.t 25), some (24, false), []⟩, ⟨some 27, .pick (.t 24) (.c (.bool true)) (.t 26), none, []⟩, ⟨some 28, .nilck (.t 19), none, []⟩, ⟨some 29, .faddr 1 (.t 28), none, []⟩, ⟨none, .store 1 (.t 29) (.t 27), none, []⟩])), []⟩
theorem h_askip : AX.compFn Tryz.prog 123 = some c_askip := by kernel_rfl
theorem a_ident (s : List UInt8) (hl : s.length ≤ 2000000) (h : Hp) : ACall Tryz.prog GT 82 [.str s] h fun r h' => r = .bool (Adr.ident s) ∧ h' = h := by
 refine pcall ?_ rfl (by simp [A.pure, A.data]) h
 refine acall_of mixedT h_ident (by simp [c_ident]) ?_
 dsimp only [c_ident]
 (refine AX.run0 True.intro ?_)
 refine awp_loop (fun mm ts h => ∃ (j : Nat), mm = s.length - j ∧ j ≤ s.length ∧ h = ⟨[], []⟩ ∧ Adr.idOk j s ∧ ts 0 = .str s ∧ ts 6 = .int .i64 (s.length : Nat) ∧ ts 7 = .int .i64 (j : Nat)) s.length ?_ ?_
 ·exact ⟨0, by omega, by omega, rfl, fun k hk => absurd hk (Nat.not_lt_zero k), by (exact AX.ev0 True.intro), by (exact AX.ev0 True.intro), by (exact AX.inv0 True.intro)⟩
 rintro mm ts h ⟨j, rfl, hjc, rfl, hok, t0, t6, t7⟩
 by_cases hj : j < s.length
 ·have hlt : (j : Int) < (s.length : Int) := by omega
  have hj0 : (0 : Int) ≤ (j : Int) := by omega
  have ei : IntKind.i64.wrap ((j : Int) + 1) = ((j + 1 : Nat) : Int) := by rw [wrap64 (by omega) (by omega)]; omega
  obtain ⟨c, hc⟩ : ∃ c, s.getD j 0 = c := ⟨_, rfl⟩
  have hfl : Adr.letter c = false → j = 0 ∨ Adr.wordB c = false → Adr.ident s = false := fun h1 h2 => Adr.ident_fail hj (by
   rw [hc]; unfold Adr.first
   rcases h2 with h2 | h2
   ·rw [if_pos h2]; exact h1
   ·split
    ·exact h1
    ·exact h2)
  have hgo : Adr.first j c = true → Adr.idOk (j + 1) s := fun h1 k hk => by
   by_cases e : k = j
   ·rw [e, hc]; exact h1
   ·exact hok k (by omega)
  have hlo := Adr.letter_or c
  have hdg := Num.digB_int c
  have hwb : Adr.wordB c = (Adr.letter c || Num.digB c) := rfl
  obtain ⟨x, hx⟩ : ∃ x : Int, (c.toNat : Int) = x := ⟨_, rfl⟩
  rw [hx] at hlo hdg
  obtain ⟨y, hy⟩ : ∃ y : Int, bits .or .u8 x 32 = y := ⟨_, rfl⟩
  rw [hy] at hlo
  have next : Adr.first j c = true → ∃ m', m' < s.length - j ∧ ∃ (j' : Nat), m' = s.length - j' ∧ j' ≤ s.length ∧ Adr.idOk j' s ∧ j' = j + 1 := fun h1 => ⟨s.length - (j + 1), by omega, j + 1, rfl, by omega, hgo h1, rfl⟩
  by_cases h95 : x = 95
  ·have e1 : (x != 95) = false := by simp [h95]
   have hL : Adr.letter c = true := by rw [hlo, e1]; rfl
   (refine AX.run0 (And.intro t0 (And.intro t6 (And.intro t7 (And.intro hlt (And.intro hj0 (And.intro hc (And.intro hx (And.intro hy (And.intro e1 ei))))))))) ?_)
   exact ⟨s.length - (j + 1), by omega, j + 1, rfl, by omega, rfl, hgo (by unfold Adr.first; split; exact hL; rw [hwb, hL]; rfl), by (exact AX.ev0 t0), by (exact AX.ev0 t6), by (exact AX.ev0 ei)⟩
  have e1 : (x != 95) = true := by simp [h95]
  by_cases h97 : y < 97 ∨ y > 122
  rotate_left
  ·have e2 : ¬ y < 97 := by omega
   have e3 : ¬ y > 122 := by omega
   have hL : Adr.letter c = true := by rw [hlo, e1, decide_eq_false e2, decide_eq_false e3]; rfl
   (refine AX.run0 (And.intro t0 (And.intro t6 (And.intro t7 (And.intro hlt (And.intro hj0 (And.intro hc (And.intro hx (And.intro hy (And.intro e1 (And.intro e2 (And.intro e3 ei))))))))))) ?_)
   exact ⟨s.length - (j + 1), by omega, j + 1, rfl, by omega, rfl, hgo (by unfold Adr.first; split; exact hL; rw [hwb, hL]; rfl), by (exact AX.ev0 t0), by (exact AX.ev0 t6), by (exact AX.ev0 ei)⟩
  have hL : Adr.letter c = false := by
   rw [hlo, e1]
   rcases h97 with h97 | h97
   ·rw [decide_eq_true h97]; rfl
   ·rw [decide_eq_true h97, Bool.or_true]; rfl
  have fail : (j = 0 ∨ Adr.wordB c = false) → Adr.ident s = false := hfl hL
  have e23 : y < 97 ∨ (¬ y < 97 ∧ y > 122) := by omega
  by_cases hz : j = 0
  ·have e4 : ((j : Int) == 0) = true := by simp [hz]
   have hF := fail (.inl hz)
   rcases e23 with e2 | ⟨e2, e3⟩
   ·(refine AX.run0 (And.intro t0 (And.intro t6 (And.intro t7 (And.intro hlt (And.intro hj0 (And.intro hc (And.intro hx (And.intro hy (And.intro e1 (And.intro e2 e4)))))))))) ?_)
    exact ⟨_, le_refl _, by rw [hF]; rfl⟩
   ·(refine AX.run0 (And.intro t0 (And.intro t6 (And.intro t7 (And.intro hlt (And.intro hj0 (And.intro hc (And.intro hx (And.intro hy (And.intro e1 (And.intro e2 (And.intro e3 e4))))))))))) ?_)
    exact ⟨_, le_refl _, by rw [hF]; rfl⟩
  have e4 : ((j : Int) == 0) = false := by simp; omega
  by_cases hd : 48 ≤ x ∧ x ≤ 57
  ·have e5 : ¬ x < 48 := by omega
   have e6 : ¬ x > 57 := by omega
   have hW : Adr.wordB c = true := by rw [hwb, hdg, decide_eq_true hd.1, decide_eq_true hd.2, hL]; rfl
   have hfst : Adr.first j c = true := by unfold Adr.first; rw [if_neg hz]; exact hW
   rcases e23 with e2 | ⟨e2, e3⟩
   ·(refine AX.run0 (And.intro t0 (And.intro t6 (And.intro t7 (And.intro hlt (And.intro hj0 (And.intro hc (And.intro hx (And.intro hy (And.intro e1 (And.intro e2 (And.intro e4 (And.intro e5 (And.intro e6 ei))))))))))))) ?_)
    exact ⟨s.length - (j + 1), by omega, j + 1, rfl, by omega, rfl, hgo hfst, by (exact AX.ev0 t0), by (exact AX.ev0 t6), by (exact AX.ev0 ei)⟩
   ·(refine AX.run0 (And.intro t0 (And.intro t6 (And.intro t7 (And.intro hlt (And.intro hj0 (And.intro hc (And.intro hx (And.intro hy (And.intro e1 (And.intro e2 (And.intro e3 (And.intro e4 (And.intro e5 (And.intro e6 ei)))))))))))))) ?_)
    exact ⟨s.length - (j + 1), by omega, j + 1, rfl, by omega, rfl, hgo hfst, by (exact AX.ev0 t0), by (exact AX.ev0 t6), by (exact AX.ev0 ei)⟩
  ·have hD : Num.digB c = false := by
    rw [hdg]
    by_cases a : 48 ≤ x
    ·rw [decide_eq_true a, decide_eq_false (by omega)]; rfl
    ·rw [decide_eq_false a]; rfl
   have hF := fail (.inr (by rw [hwb, hL, hD]; rfl))
   have e56 : x < 48 ∨ (¬ x < 48 ∧ x > 57) := by omega
   rcases e23 with e2 | ⟨e2, e3⟩
   ·rcases e56 with e5 | ⟨e5, e6⟩
    ·(refine AX.run0 (And.intro t0 (And.intro t6 (And.intro t7 (And.intro hlt (And.intro hj0 (And.intro hc (And.intro hx (And.intro hy (And.intro e1 (And.intro e2 (And.intro e4 e5))))))))))) ?_)
     exact ⟨_, le_refl _, by rw [hF]; rfl⟩
    ·(refine AX.run0 (And.intro t0 (And.intro t6 (And.intro t7 (And.intro hlt (And.intro hj0 (And.intro hc (And.intro hx (And.intro hy (And.intro e1 (And.intro e2 (And.intro e4 (And.intro e5 e6)))))))))))) ?_)
     exact ⟨_, le_refl _, by rw [hF]; rfl⟩
   ·rcases e56 with e5 | ⟨e5, e6⟩
    ·(refine AX.run0 (And.intro t0 (And.intro t6 (And.intro t7 (And.intro hlt (And.intro hj0 (And.intro hc (And.intro hx (And.intro hy (And.intro e1 (And.intro e2 (And.intro e3 (And.intro e4 e5)))))))))))) ?_)
     exact ⟨_, le_refl _, by rw [hF]; rfl⟩
    ·(refine AX.run0 (And.intro t0 (And.intro t6 (And.intro t7 (And.intro hlt (And.intro hj0 (And.intro hc (And.intro hx (And.intro hy (And.intro e1 (And.intro e2 (And.intro e3 (And.intro e4 (And.intro e5 e6))))))))))))) ?_)
     exact ⟨_, le_refl _, by rw [hF]; rfl⟩
 ·have hlt : ¬ ((j : Int) < (s.length : Int)) := by omega
  have hje : j = s.length := by omega
  rw [hje] at hok
  have hE := Adr.ident_end hok
  by_cases hn : s = []
  ·have e1 : (s != []) = false := by simp [hn]
   rw [e1] at hE
   (refine AX.run0 (And.intro t0 (And.intro t6 (And.intro t7 (And.intro hlt e1)))) ?_)
   exact ⟨_, le_refl _, by rw [hE]; rfl⟩
  ·have e1 : (s != []) = true := by simp [hn]
   rw [e1] at hE
   have e2 : decide ((s.length : Int) ≤ 64) = decide (s.length ≤ 64) := decide_eq_decide.2 (by omega)
   (refine AX.run0 (And.intro t0 (And.intro t6 (And.intro t7 (And.intro hlt e1)))) ?_)
   exact ⟨_, le_refl _, by rw [hE]; first | rfl | (rw [tupA_1, e2]; rfl) | rw [← e2]; rfl⟩
theorem a_lcutp (s p : List UInt8) (h : Hp) : ACall Tryz.prog GT 186 [.str s, .str p] h fun r h' => r = .tup [.str (if Adr.begins s p then s.drop p.length else s), .bool (Adr.begins s p)] ∧ h' = h := by
 refine pcall ?_ rfl (by simp [A.pure, A.data]) h
 refine acall_of mixedT h_lcutp (by simp [c_lcutp]) ?_
 dsimp only [c_lcutp]
 have hp : (decide (p.length ≤ s.length) && s.take p.length == p) = Adr.begins s p := by
  unfold Adr.begins
  rw [Bool.eq_iff_iff, List.isPrefixOf_iff_prefix, List.prefix_iff_eq_take, Bool.and_eq_true, decide_eq_true_eq, beq_iff_eq]
  constructor
  ·rintro ⟨h1, h2⟩; exact h2.symm
  ·intro h2
   exact ⟨by have := congrArg List.length h2; rw [List.length_take] at this; omega, h2.symm⟩
 have hc := fun h => a_liteHasPrefix s p h
 rw [hp] at hc
 (refine AX.run0 True.intro ?_)
 refine use (hc _) ?_
 cases hB : Adr.begins s p
 ·(refine AX.run0 True.intro ?_)
  exact ⟨_, le_refl _, rfl⟩
 ·have hle : (p.length : Int) ≤ (s.length : Int) := by have := Adr.begins_len hB; omega
  have h0 : (0 : Int) ≤ (p.length : Int) := by omega
  (refine AX.run0 (And.intro hle h0) ?_)
  refine ⟨_, le_refl _, ?_⟩
  rw [if_pos rfl]
  first | rfl | (rw [tupA_2]; simp)
theorem a_cutp (s p : List UInt8) (h : Hp) : ACall Tryz.prog GT 158 [.str s, .str p] h fun r h' => r = .tup [.str (if Adr.begins s p then s.drop p.length else s), .bool (Adr.begins s p)] ∧ h' = h := by
 refine pcall ?_ rfl (by simp [A.pure, A.data]) h
 refine acall_of mixedT h_cutp (by simp [c_cutp]) ?_
 dsimp only [c_cutp]
 (refine AX.run0 True.intro ?_)
 refine use (a_lcutp s p _) ?_
 (refine AX.run0 True.intro ?_)
 exact ⟨_, le_refl _, rfl⟩
def adB (r : Adr.Rd) : Blk := .cells 173 [.str r.rest, .bool r.bad]
theorem adB_loc (r : Adr.Rd) : (adB r).loc 0 := rfl
theorem w_has (p : List UInt8) (r : Adr.Rd) {h : Hp} {i : Nat} (hb : h.b[i]? = some (adB r)) :
  ACall Tryz.prog GT 121 [.ptr i 0, .str p] h fun v h' => v = .bool (Adr.hasP p r).1 ∧ h' = ⟨h.b.set i (adB (Adr.hasP p r).2), h.t⟩ := by
 have key : ACall Tryz.prog GT 121 [.ptr 0 0, .str p] ⟨[adB r], []⟩ fun v h' => ∃ b', h'.b[0]? = some b' ∧ v = .bool (Adr.hasP p r).1 ∧ b' = adB (Adr.hasP p r).2 := by
  refine acall_of mixedT h_ahas (by simp [c_ahas]) ?_
  dsimp only [c_ahas]
  unfold adB
  (refine AX.run0 True.intro ?_)
  refine use (a_cutp r.rest p _) ?_
  unfold Adr.hasP
  cases hB : Adr.begins r.rest p
  ·(refine AX.run0 True.intro ?_)
   exact ⟨_, le_refl _, _, rfl, rfl, rfl⟩
  ·(refine AX.run0 True.intro ?_)
   exact ⟨_, le_refl _, _, rfl, rfl, rfl⟩
 refine (ACall.lift1 key rfl (adB_loc r) ?_ hb).mono ?_
 ·rintro v b' ⟨rfl, rfl⟩; exact ⟨rfl, adB_loc _⟩
 ·rintro v h' ⟨b', ⟨rfl, rfl⟩, rfl⟩; exact ⟨rfl, rfl⟩
theorem w_skip (p : List UInt8) (r : Adr.Rd) {h : Hp} {i : Nat} (hb : h.b[i]? = some (adB r)) :
  ACall Tryz.prog GT 123 [.ptr i 0, .str p] h fun v h' => v = .tup [] ∧ h' = ⟨h.b.set i (adB (Adr.skipP p r)), h.t⟩ := by
 have key : ACall Tryz.prog GT 123 [.ptr 0 0, .str p] ⟨[adB r], []⟩ fun v h' => ∃ b', h'.b[0]? = some b' ∧ v = .tup [] ∧ b' = adB (Adr.skipP p r) := by
  obtain ⟨rest, bad⟩ := r
  refine acall_of mixedT h_askip (by simp [c_askip]) ?_
  dsimp only [c_askip]
  unfold adB
  (refine AX.run0 True.intro ?_)
  refine use (a_cutp rest p _) ?_
  unfold Adr.skipP
  dsimp only
  cases hB : Adr.begins rest p
  ·cases bad
   ·(refine AX.run0 True.intro ?_)
    exact ⟨_, le_refl _, _, rfl, rfl, rfl⟩
   ·(refine AX.run0 True.intro ?_)
    exact ⟨_, le_refl _, _, rfl, rfl, rfl⟩
  ·cases bad
   ·(refine AX.run0 True.intro ?_)
    exact ⟨_, le_refl _, _, rfl, rfl, rfl⟩
   ·(refine AX.run0 True.intro ?_)
    exact ⟨_, le_refl _, _, rfl, rfl, rfl⟩
 refine (ACall.lift1 key rfl (adB_loc r) ?_ hb).mono ?_
 ·rintro v b' ⟨rfl, rfl⟩; exact ⟨rfl, adB_loc _⟩
 ·rintro v h' ⟨b', ⟨rfl, rfl⟩, rfl⟩; exact ⟨rfl, rfl⟩
end AX
end Go.Proofs.YtnjkemakcejceaaGreatDoor
