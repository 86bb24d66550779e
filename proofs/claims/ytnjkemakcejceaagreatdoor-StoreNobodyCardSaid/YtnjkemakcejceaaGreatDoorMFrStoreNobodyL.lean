/- Part of what the proof needs. -/
import Derived.Test.YtnjkemakcejceaaGreatDoorMFrStoreNobodyA
import Derived.Test.YtnjkemakcejceaaGreatDoorMFrStoreNobodyE
import Derived.Test.YtnjkemakcejceaaGreatDoorMFrStoreNobodyG
import Derived.Test.YtnjkemakcejceaaGreatDoorMFrStoreNobodyI
import Derived.Test.YtnjkemakcejceaaGreatDoorMFrStoreNobodyK
import Derived.Lib.ParseIntB
import Derived.Test.YtnjkemakcejceaaGreatDoorShelfP
import Derived.Laws.RangeAny
import Derived.Laws.Runes
import Derived.Lib.OthersKept
import Derived.Deep.LoopGhost
import Derived.BigRegion
import Derived.Below
import Derived.BigQuiet
import Derived.Deep.QuietTactic
import Derived.WalkMore
import Derived.IntWalk
set_option linter.unusedSimpArgs false
set_option linter.unusedVariables false
set_option linter.unnecessarySimpa false
namespace Go.Proofs.YtnjkemakcejceaaGreatDoor
open Go.RowKit
set_option maxHeartbeats 4000000
namespace AX
def c_sttext : AX.AFn := ⟨9, .seq (.reg false [⟨some 2, .mv (.c (.bool false)), none, []⟩]) (.seq (.reg false [⟨some 3, .mv (.t 0), none, []⟩, ⟨some 4, .bin .neq (.t 3) (.c (.str [])), none, []⟩, ⟨some 5, .mv (.t 4), none, []⟩, ⟨some 6, .mv (.t 0), some (5, true), []⟩, ⟨some 7, .call 74 [.t 6], some (5, true), []⟩, ⟨some 8, .pick (.t 5) (.t 7) (.c (.bool false)), none, []⟩, ⟨some 2, .mv (.t 8), none, []⟩]) (.ret)), [.t 2]⟩
theorem h_sttext : AX.compFn Tryz.prog 62 = some c_sttext := by kernel_rfl
def c_made : AX.AFn := ⟨12, .seq (.reg false [⟨some 2, .mv (.c (.bool false)), none, []⟩]) (.seq (.reg false [⟨some 3, .mv (.t 0), none, []⟩, ⟨some 4, .eq 1 [] true (.t 3) (.c (.nilp)), none, []⟩, ⟨some 5, .mv (.t 4), none, []⟩, ⟨some 6, .mv (.t 0), some (5, true), []⟩, ⟨some 7, .nilck (.t 6), some (5, true), []⟩, ⟨some 8, .faddr 3 (.t 7), some (5, true), []⟩, ⟨some 9, .load false 1 (.t 8), some (5, true), []⟩, ⟨some 10, .eq 3 [] true (.t 9) (.c (.nilm)), some (5, true), []⟩, ⟨some 11, .pick (.t 5) (.t 10) (.c (.bool false)), none, []⟩, ⟨some 2, .mv (.t 11), none, []⟩]) (.ret)), [.t 2]⟩
theorem h_made : AX.compFn Tryz.prog 67 = some c_made := by kernel_rfl
def c_holds : AX.AFn := ⟨18, .seq (.reg false [⟨some 4, .mv (.c (.bool false)), none, []⟩]) (.seq (.reg false [⟨some 5, .mv (.t 0), none, []⟩, ⟨some 6, .nilck (.t 5), none, []⟩, ⟨some 7, .faddr 4 (.t 6), none, []⟩, ⟨some 8, .load false 1 (.t 7), none, []⟩, ⟨some 9, .bin .neq (.t 8) (.c (.str [])), none, []⟩, ⟨some 10, .mv (.t 9), none, []⟩, ⟨some 11, .mv (.t 0), some (10, true), []⟩, ⟨some 12, .nilck (.t 11), some (10, true), []⟩, ⟨some 13, .faddr 4 (.t 12), some (10, true), []⟩, ⟨some 14, .load false 1 (.t 13), some (10, true), []⟩, ⟨some 15, .mv (.t 1), some (10, true), []⟩, ⟨some 16, .bin .eql (.t 14) (.t 15), some (10, true), []⟩, ⟨some 17, .pick (.t 10) (.t 16) (.c (.bool false)), none, []⟩, ⟨some 4, .mv (.t 17), none, []⟩]) (.ret)), [.t 4]⟩
theorem h_holds : AX.compFn Tryz.prog 68 = some c_holds := by kernel_rfl
def c_slock : AX.AFn := ⟨42, .seq (.reg false [⟨some 6, .mv (.c (.int .i64 0)), none, []⟩]) (.seq (.seq (.reg false [⟨some 7, .mv (.t 0), none, []⟩, ⟨some 8, .call 67 [.t 7], none, []⟩, ⟨some 9, .un .not (.t 8), none, []⟩]) (.cond (.t 9) (.seq (.reg false [⟨some 6, .mv (.c (.int .i64 38)), none, []⟩]) (.ret)) (.skip))) (.seq (.seq (.reg false [⟨some 10, .mv (.t 1), none, []⟩, ⟨some 11, .call 62 [.t 10], none, []⟩, ⟨some 12, .un .not (.t 11), none, []⟩, ⟨some 13, .mv (.t 12), none, []⟩, ⟨some 14, .mv (.t 2), some (13, false), []⟩, ⟨some 15, .bin .lss (.t 14) (.c (.int .i64 1)), some (13, false), []⟩, ⟨some 16, .pick (.t 13) (.c (.bool true)) (.t 15), none, []⟩, ⟨some 17, .mv (.t 16), none, []⟩, ⟨some 18, .mv (.t 2), some (17, false), []⟩, ⟨some 19, .bin .gtr (.t 18) (.c (.int .i64 1099511627776)), some (17, false), []⟩, ⟨some 20, .pick (.t 17) (.c (.bool true)) (.t 19), none, []⟩]) (.cond (.t 20) (.seq (.reg false [⟨some 6, .mv (.c (.int .i64 1)), none, []⟩]) (.ret)) (.skip))) (.seq (.seq (.reg false [⟨some 21, .mv (.t 0), none, []⟩, ⟨some 22, .nilck (.t 21), none, []⟩, ⟨some 23, .faddr 4 (.t 22), none, []⟩, ⟨some 24, .load false 1 (.t 23), none, []⟩, ⟨some 25, .bin .neq (.t 24) (.c (.str [])), none, []⟩, ⟨some 26, .mv (.t 25), none, []⟩, ⟨some 27, .mv (.t 0), some (26, true), []⟩, ⟨some 28, .nilck (.t 27), some (26, true), []⟩, ⟨some 29, .faddr 4 (.t 28), some (26, true), []⟩, ⟨some 30, .load false 1 (.t 29), some (26, true), []⟩, ⟨some 31, .mv (.t 1), some (26, true), []⟩, ⟨some 32, .bin .neq (.t 30) (.t 31), some (26, true), []⟩, ⟨some 33, .pick (.t 26) (.t 32) (.c (.bool false)), none, []⟩]) (.cond (.t 33) (.seq (.reg false [⟨some 6, .mv (.c (.int .i64 24)), none, []⟩]) (.ret)) (.skip))) (.seq (.reg false [⟨some 34, .mv (.t 0), none, []⟩, ⟨some 35, .mv (.t 0), none, []⟩, ⟨some 36, .mv (.t 1), none, []⟩, ⟨some 37, .mv (.t 2), none, []⟩, ⟨some 38, .nilck (.t 34), none, []⟩, ⟨some 39, .faddr 4 (.t 38), none, []⟩, ⟨none, .store 1 (.t 39) (.t 36), none, []⟩, ⟨some 40, .nilck (.t 35), none, []⟩, ⟨some 41, .faddr 5 (.t 40), none, []⟩, ⟨none, .store 1 (.t 41) (.t 37), none, []⟩]) (.seq (.reg false [⟨some 6, .mv (.c (.int .i64 0)), none, []⟩]) (.ret)))))), [.t 6]⟩
theorem h_slock : AX.compFn Tryz.prog 18 = some c_slock := by kernel_rfl
def c_sunlock : AX.AFn := ⟨18, .seq (.reg false [⟨some 4, .mv (.c (.int .i64 0)), none, []⟩]) (.seq (.seq (.reg false [⟨some 5, .mv (.t 0), none, []⟩, ⟨some 6, .call 67 [.t 5], none, []⟩, ⟨some 7, .un .not (.t 6), none, []⟩]) (.cond (.t 7) (.seq (.reg false [⟨some 4, .mv (.c (.int .i64 38)), none, []⟩]) (.ret)) (.skip))) (.seq (.seq (.reg false [⟨some 8, .mv (.t 0), none, []⟩, ⟨some 9, .mv (.t 1), none, []⟩, ⟨some 10, .call 68 [.t 8, .t 9], none, []⟩, ⟨some 11, .un .not (.t 10), none, []⟩]) (.cond (.t 11) (.seq (.reg false [⟨some 4, .mv (.c (.int .i64 25)), none, []⟩]) (.ret)) (.skip))) (.seq (.reg false [⟨some 12, .mv (.t 0), none, []⟩, ⟨some 13, .mv (.t 0), none, []⟩, ⟨some 14, .nilck (.t 12), none, []⟩, ⟨some 15, .faddr 4 (.t 14), none, []⟩, ⟨none, .store 1 (.t 15) (.c (.str [])), none, []⟩, ⟨some 16, .nilck (.t 13), none, []⟩, ⟨some 17, .faddr 5 (.t 16), none, []⟩, ⟨none, .store 1 (.t 17) (.c (.int .i64 0)), none, []⟩]) (.seq (.reg false [⟨some 4, .mv (.c (.int .i64 0)), none, []⟩]) (.ret))))), [.t 4]⟩
theorem h_sunlock : AX.compFn Tryz.prog 20 = some c_sunlock := by kernel_rfl
def c_holder : AX.AFn := ⟨15, .seq (.reg false [⟨some 2, .mv (.c (.str [])), none, []⟩, ⟨some 3, .mv (.c (.int .i64 0)), none, []⟩]) (.seq (.seq (.reg false [⟨some 4, .mv (.t 0), none, []⟩, ⟨some 5, .call 67 [.t 4], none, []⟩, ⟨some 6, .un .not (.t 5), none, []⟩]) (.cond (.t 6) (.seq (.reg false [⟨some 2, .mv (.c (.str [])), none, []⟩, ⟨some 3, .mv (.c (.int .i64 0)), none, []⟩]) (.ret)) (.skip))) (.seq (.reg true [⟨some 7, .mv (.t 0), none, []⟩, ⟨some 8, .nilck (.t 7), none, [0]⟩, ⟨some 9, .faddr 4 (.t 8), none, [1]⟩, ⟨some 10, .load false 1 (.t 9), none, [2]⟩, ⟨some 11, .mv (.t 0), none, []⟩, ⟨some 12, .nilck (.t 11), none, [4]⟩, ⟨some 13, .faddr 5 (.t 12), none, [5]⟩, ⟨some 14, .load false 1 (.t 13), none, [6]⟩, ⟨some 2, .mv (.t 10), none, [3, 0, 1, 2, 3]⟩, ⟨some 3, .mv (.t 14), none, [7, 8, 0, 1, 2, 3, 4, 5, 6, 7, 8]⟩]) (.ret))), [.t 2, .t 3]⟩
theorem h_holder : AX.compFn Tryz.prog 35 = some c_holder := by kernel_rfl
def c_sbreak : AX.AFn := ⟨14, .seq (.reg false [⟨some 2, .mv (.c (.bool false)), none, []⟩]) (.seq (.reg false [⟨some 3, .mv (.t 0), none, []⟩, ⟨some 4, .call 67 [.t 3], none, []⟩, ⟨some 5, .mv (.t 4), none, []⟩, ⟨some 6, .mv (.t 0), some (5, true), []⟩, ⟨some 7, .mv (.t 0), some (5, true), []⟩, ⟨some 8, .nilck (.t 7), some (5, true), []⟩, ⟨some 9, .faddr 4 (.t 8), some (5, true), []⟩, ⟨some 10, .load false 1 (.t 9), some (5, true), []⟩, ⟨some 11, .call 20 [.t 6, .t 10], some (5, true), []⟩, ⟨some 12, .bin .eql (.t 11) (.c (.int .i64 0)), some (5, true), []⟩, ⟨some 13, .pick (.t 5) (.t 12) (.c (.bool false)), none, []⟩, ⟨some 2, .mv (.t 13), none, []⟩]) (.ret)), [.t 2]⟩
theorem h_sbreak : AX.compFn Tryz.prog 23 = some c_sbreak := by kernel_rfl
def c_stick : AX.AFn := ⟨39, .seq (.seq (.reg false [⟨some 4, .mv (.t 0), none, []⟩, ⟨some 5, .call 67 [.t 4], none, []⟩, ⟨some 6, .un .not (.t 5), none, []⟩, ⟨some 7, .mv (.t 6), none, []⟩, ⟨some 8, .mv (.t 1), some (7, false), []⟩, ⟨some 9, .bin .leq (.t 8) (.c (.int .i64 0)), some (7, false), []⟩, ⟨some 10, .pick (.t 7) (.c (.bool true)) (.t 9), none, []⟩, ⟨some 11, .mv (.t 10), none, []⟩, ⟨some 12, .mv (.t 0), some (11, false), []⟩, ⟨some 13, .nilck (.t 12), some (11, false), []⟩, ⟨some 14, .faddr 4 (.t 13), some (11, false), []⟩, ⟨some 15, .load false 1 (.t 14), some (11, false), []⟩, ⟨some 16, .bin .eql (.t 15) (.c (.str [])), some (11, false), []⟩, ⟨some 17, .pick (.t 11) (.c (.bool true)) (.t 16), none, []⟩]) (.cond (.t 17) (.ret) (.skip))) (.seq (.reg true [⟨some 18, .mv (.t 0), none, []⟩, ⟨some 19, .nilck (.t 18), none, [0]⟩, ⟨some 20, .faddr 5 (.t 19), none, [1]⟩, ⟨some 21, .load false 1 (.t 20), none, [2]⟩, ⟨some 22, .mv (.t 1), none, []⟩, ⟨some 23, .mv (.t 0), none, []⟩, ⟨some 24, .nilck (.t 23), none, [5]⟩, ⟨some 25, .faddr 5 (.t 24), none, [6]⟩, ⟨some 26, .load false 1 (.t 25), none, [7]⟩, ⟨some 27, .mm false (.t 22) (.t 26), none, [4, 8]⟩, ⟨some 28, .bin .sub (.t 21) (.t 27), none, [3, 9]⟩, ⟨some 29, .nilck (.t 18), none, [0, 0, 1, 2, 3, 4, 5, 6, 7, 8, 9, 10]⟩, ⟨some 30, .faddr 5 (.t 29), none, [11, 0, 1, 2, 3, 4, 5, 6, 7, 8, 9, 10]⟩, ⟨none, .store 1 (.t 30) (.t 28), none, [12, 10, 0, 1, 2, 3, 4, 5, 6, 7, 8, 9, 10]⟩]) (.seq (.reg false [⟨some 31, .mv (.t 0), none, []⟩, ⟨some 32, .nilck (.t 31), none, []⟩, ⟨some 33, .faddr 5 (.t 32), none, []⟩, ⟨some 34, .load false 1 (.t 33), none, []⟩, ⟨some 35, .bin .eql (.t 34) (.c (.int .i64 0)), none, []⟩]) (.cond (.t 35) (.reg false [⟨some 36, .mv (.t 0), none, []⟩, ⟨some 37, .nilck (.t 36), none, []⟩, ⟨some 38, .faddr 4 (.t 37), none, []⟩, ⟨none, .store 1 (.t 38) (.c (.str [])), none, []⟩]) (.skip)))), []⟩
theorem h_stick : AX.compFn Tryz.prog 24 = some c_stick := by kernel_rfl
theorem a_sttext (s : List UInt8) (hs : s.length ≤ 2000000) (h : Hp) : ACall Tryz.prog GT 62 [.str s] h fun r h' => r = .bool (Sto.txt s) ∧ h' = h := by
 refine pcall ?_ rfl (by simp [A.pure, A.data]) h
 refine acall_of mixedT h_sttext (by simp [c_sttext]) ?_
 dsimp only [c_sttext]
 unfold Sto.txt
 rcases bool_or (s != []) with h1 | h1
 ·(refine AX.go0 h1 ?_)
  (refine AX.gc0 h1 ?_)
  refine (a_valid s hs _).mono ?_
  rintro v h1' ⟨rfl, rfl⟩
  (refine AX.go0 h1 ?_)
  exact ⟨_, le_refl _, by rw [tupA_1, h1]; rfl⟩
 ·(refine AX.go0 h1 ?_)
  exact ⟨_, le_refl _, by rw [tupA_1, h1]; rfl⟩
section
variable (s : Sto) (l : List Blk) (t : List (TypeId × Nat × Nat))
theorem a_made : ACall Tryz.prog GT 67 [.ptr 1 0] ⟨s.M :: s.B :: l, t⟩ fun r h' => r = .bool true ∧ h' = ⟨s.M :: s.B :: l, t⟩ := by
 refine liftS (s' := s) ?_ rfl rfl l t
 refine acall_of mixedT h_made (by simp [c_made]) ?_
 dsimp only [c_made]
 unfold Sto.B
 (refine AX.runM True.intro ?_)
 exact ⟨_, le_refl _, rfl, rfl, rfl⟩
theorem a_holds (who : List UInt8) : ACall Tryz.prog GT 68 [.ptr 1 0, .str who] ⟨s.M :: s.B :: l, t⟩ fun r h' => r = .bool (s.holds who) ∧ h' = ⟨s.M :: s.B :: l, t⟩ := by
 refine liftS (s' := s) ?_ rfl rfl l t
 refine acall_of mixedT h_holds (by simp [c_holds]) ?_
 dsimp only [c_holds]
 unfold Sto.B Sto.holds
 rcases bool_or (s.own != []) with h1 | h1
 ·(refine AX.runM h1 ?_)
  exact ⟨_, le_refl _, by rw [h1]; rfl, rfl, rfl⟩
 ·(refine AX.runM h1 ?_)
  exact ⟨_, le_refl _, by rw [h1]; rfl, rfl, rfl⟩
theorem a_holder : ACall Tryz.prog GT 35 [.ptr 1 0] ⟨s.M :: s.B :: l, t⟩ fun r h' => r = .tup [.str s.own, .int .i64 s.left] ∧ h' = ⟨s.M :: s.B :: l, t⟩ := by
 refine liftS (s' := s) ?_ rfl rfl l t
 refine acall_of mixedT h_holder (by simp [c_holder]) ?_
 dsimp only [c_holder]
 have hm := a_made s
 unfold Sto.B at hm ⊢
 (refine AX.runM True.intro ?_)
 refine use (hm _ _) ?_
 (refine AX.runM True.intro ?_)
 exact ⟨_, le_refl _, rfl, rfl, rfl⟩
theorem a_lock (who : List UInt8) (hw : who.length ≤ 2000000) (n : Int) : ACall Tryz.prog GT 18 [.ptr 1 0, .str who, .int .i64 n] ⟨s.M :: s.B :: l, t⟩ fun r h' => r = .int .i64 (s.lock who n).2 ∧ h' = ⟨(s.lock who n).1.M :: (s.lock who n).1.B :: l, t⟩ := by
 refine liftS (s' := (s.lock who n).1) ?_ rfl rfl l t
 refine acall_of mixedT h_slock (by simp [c_slock]) ?_
 dsimp only [c_slock]
 obtain ⟨q, hq⟩ : ∃ q, s.lock who n = q := ⟨_, rfl⟩
 rw [hq]
 unfold Sto.lock at hq
 have hm := a_made s
 unfold Sto.B at hm ⊢
 (refine AX.runM True.intro ?_)
 refine use (hm _ _) ?_
 (refine AX.runM True.intro ?_)
 refine use (a_sttext who hw _) ?_
 cases hT : Sto.txt who
 ·rw [hT, if_pos (by simp)] at hq
  subst hq
  (refine AX.runM True.intro ?_)
  exact ⟨_, le_refl _, rfl, rfl, rfl⟩
 by_cases h1 : n < 1
 ·rw [hT, if_pos (by simp; omega)] at hq
  subst hq
  (refine AX.runM h1 ?_)
  exact ⟨_, le_refl _, rfl, rfl, rfl⟩
 by_cases h2 : n > 1099511627776
 ·rw [hT, if_pos (by simp; omega)] at hq
  subst hq
  (refine AX.runM (And.intro h1 h2) ?_)
  exact ⟨_, le_refl _, rfl, rfl, rfl⟩
 rw [hT, if_neg (by simp; omega)] at hq
 rcases bool_or (s.own != []) with h3 | h3
 ·rcases bool_or (s.own != who) with h4 | h4
  ·rw [h3, h4, if_pos (by decide)] at hq
   subst hq
   (refine AX.runM (And.intro h1 (And.intro h2 (And.intro h3 h4))) ?_)
   exact ⟨_, le_refl _, rfl, rfl, rfl⟩
  ·rw [h3, h4, if_neg (by decide)] at hq
   subst hq
   (refine AX.runM (And.intro h1 (And.intro h2 (And.intro h3 h4))) ?_)
   exact ⟨_, le_refl _, rfl, rfl, rfl⟩
 ·rw [h3, if_neg (by simp)] at hq
  subst hq
  (refine AX.runM (And.intro h1 (And.intro h2 h3)) ?_)
  exact ⟨_, le_refl _, rfl, rfl, rfl⟩
theorem a_tick (n : Int) (hl : 0 ≤ s.left) (hl2 : s.left ≤ 1099511627776) : ACall Tryz.prog GT 24 [.ptr 1 0, .int .i64 n] ⟨s.M :: s.B :: l, t⟩ fun r h' => r = .tup [] ∧ h' = ⟨(s.tick n).M :: (s.tick n).B :: l, t⟩ := by
 refine liftS (s' := s.tick n) ?_ rfl rfl l t
 refine acall_of mixedT h_stick (by simp [c_stick]) ?_
 dsimp only [c_stick]
 obtain ⟨q, hq⟩ : ∃ q, s.tick n = q := ⟨_, rfl⟩
 rw [hq]
 unfold Sto.tick at hq
 have hm := a_made s
 unfold Sto.B at hm ⊢
 (refine AX.runM True.intro ?_)
 refine use (hm _ _) ?_
 by_cases h1 : n ≤ 0
 ·rw [if_pos (.inl h1)] at hq
  subst hq
  (refine AX.runM h1 ?_)
  exact ⟨_, le_refl _, rfl, rfl, rfl⟩
 by_cases h2 : s.own = []
 ·rw [if_pos (.inr h2)] at hq
  subst hq
  have h3 : (s.own == []) = true := by simp [h2]
  (refine AX.runM (And.intro h1 h3) ?_)
  exact ⟨_, le_refl _, rfl, rfl, rfl⟩
 have h3 : (s.own == []) = false := by simpa using h2
 rw [if_neg (by rintro (h | h) <;> contradiction)] at hq
 obtain ⟨m, hm2⟩ : ∃ m, s.left - (if s.left < n then s.left else n) = m := ⟨_, rfl⟩
 rw [hm2] at hq
 have hm3 : 0 ≤ m ∧ m ≤ 1099511627776 := by rw [← hm2]; split <;> omega
 have hw : IntKind.i64.wrap m = m := wrap64 (by omega) (by omega)
 by_cases h4 : m = 0
 ·rw [if_pos h4] at hq
  subst hq
  have h5 : (m == 0) = true := by simp [h4]
  (refine AX.runM (And.intro h1 (And.intro h3 (And.intro hm2 (And.intro hw h5)))) ?_)
  exact ⟨_, le_refl _, rfl, rfl, by rw [h4]; rfl⟩
 ·rw [if_neg h4] at hq
  subst hq
  have h5 : (m == 0) = false := by simp [h4]
  (refine AX.runM (And.intro h1 (And.intro h3 (And.intro hm2 (And.intro hw h5)))) ?_)
  exact ⟨_, le_refl _, rfl, rfl, rfl⟩
end
end AX
end Go.Proofs.YtnjkemakcejceaaGreatDoor

namespace Go.Proofs.YtnjkemakcejceaaGreatDoor
open Go.Lib
namespace Num
def valA (n : Nat) (s : List UInt8) : Nat := s.foldl (fun n c => 10 * n + (c.toNat - 48)) n
theorem valA_cons (n : Nat) (c : UInt8) (s : List UInt8) : valA n (c :: s) = valA (10 * n + (c.toNat - 48)) s := by unfold valA; rw [List.foldl_cons]
theorem val_valA (s : List UInt8) : val s = valA 0 s := rfl
theorem valA_ge : ∀ (s : List UInt8) (n : Nat), n * 10 ^ s.length ≤ valA n s
 | [], n => by simp [valA]
 | c :: s, n => by
  rw [valA_cons, List.length_cons, Nat.pow_succ]
  refine Nat.le_trans ?_ (valA_ge s _)
  have e : n * (10 ^ s.length * 10) = (10 * n) * 10 ^ s.length := by
   rw [Nat.mul_comm (10 ^ s.length) 10, ← Nat.mul_assoc, Nat.mul_comm n 10]
  rw [e]
  exact Nat.mul_le_mul_right _ (by omega)
theorem valA_le (s : List UInt8) (n : Nat) : n ≤ valA n s := by
 have h := valA_ge s n
 have h1 : 1 ≤ 10 ^ s.length := Nat.one_le_pow _ _ (by omega)
 exact Nat.le_trans (by simpa using Nat.mul_le_mul_left n h1) h
theorem digB_iff (c : UInt8) : digB c = true ↔ 48 ≤ c.toNat ∧ c.toNat ≤ 57 := by simp [digB]
theorem uintM_digits : ∀ (l : List UInt8) (acc : Nat), l.all digB = true → parseUintM 18446744073709551615 acc l = if valA acc l ≤ 18446744073709551615 then .ok (valA acc l) else if l = [] then .ok acc else .range
 | [], acc, _ => by simp [parseUintM, valA]
 | c :: r, acc, h => by
  rw [List.all_cons, Bool.and_eq_true, digB_iff] at h
  have h1 := valA_le r (10 * acc + (c.toNat - 48))
  rw [valA_cons]
  unfold parseUintM
  rw [if_pos h.1]
  split
  ·rw [if_neg (by omega), if_neg (by simp)]
  ·split
   ·rw [if_neg (by omega), if_neg (by simp)]
   ·rw [uintM_digits r _ h.2, Nat.mul_comm acc 10]
    by_cases hv : valA (10 * acc + (c.toNat - 48)) r ≤ 18446744073709551615
    ·rw [if_pos hv, if_pos hv]
    ·rw [if_neg hv, if_neg hv, if_neg (show ¬ (c :: r = []) by simp)]
     cases r with
     | nil =>
      exfalso
      apply hv
      unfold valA
      rw [List.foldl_nil]
      omega
     | cons d q => rw [if_neg (by simp)]
def body (s : List UInt8) : List UInt8 := if s.getD 0 0 == 45 then s.drop 1 else s
def canonB (s : List UInt8) : Bool := digits (body s) && !(s.getD 0 0 == 45 && body s == [48])
theorem digits_long {t : List UInt8} (h : digits t = true) (hl : 16 < t.length) : 9007199254740992 < val t := by
 cases t with
 | nil => simp at hl
 | cons c r =>
  unfold digits at h
  rw [Bool.and_eq_true, Bool.or_eq_true, beq_iff_eq, Bool.and_eq_true, List.all_cons, Bool.and_eq_true, digB_iff] at h
  obtain ⟨⟨h1, h2⟩, h3⟩ := h
  rcases h3 with h3 | h3
  ·injection h3 with _ h3; subst h3; simp at hl
  ·have h4 : c ≠ 48 := by simpa using h3.2
   have h5 : c.toNat ≠ 48 := fun e => h4 (UInt8.toNat_inj.1 (by simpa using e))
   have h6 := valA_ge r (c.toNat - 48)
   have h7 : 10 ^ 16 ≤ 10 ^ r.length := Nat.pow_le_pow_right (by omega) (by simp at hl; omega)
   have h8 : 1 * 10 ^ r.length ≤ (c.toNat - 48) * 10 ^ r.length := Nat.mul_le_mul_right _ (by omega)
   have e : val (c :: r) = valA (c.toNat - 48) r := by rw [val_valA, valA_cons]; simp
   rw [e]
   have h9 : (10 : Nat) ^ 16 = 10000000000000000 := by decide
   omega
theorem parse_form (s : List UInt8) : parse s = if canonB s = false then (0, 2) else if 9007199254740992 < val (body s) then (0, 5) else (if s.getD 0 0 == 45 then -(val (body s) : Int) else (val (body s) : Int), 0) := by
 have e : parse s = if (!digits (body s) || (s.getD 0 0 == 45 && body s == [48])) = true then (0, 2) else if 16 < (body s).length then (0, 5) else if 9007199254740992 < val (body s) then (0, 5) else (if s.getD 0 0 == 45 then -(val (body s) : Int) else (val (body s) : Int), 0) := rfl
 rw [e]
 unfold canonB
 cases hd : digits (body s)
 ·simp
 ·cases hm : (s.getD 0 0 == 45 && body s == [48])
  ·simp only [Bool.not_true, Bool.or_false, Bool.false_eq_true, if_false, Bool.not_false, Bool.and_self, Bool.true_eq_false]
   split
   ·next hl => rw [if_pos (digits_long hd hl)]
   ·rfl
  ·simp
theorem parseIntB_canon (s : List UInt8) (h : canonB s = true) :
  (val (body s) ≤ 9007199254740992 ∧ parseIntB 64 s = .ok (if s.getD 0 0 == 45 then -(val (body s) : Int) else (val (body s) : Int))) ∨
  (9007199254740992 < val (body s) ∧ (parseIntB 64 s = .range ∨ ∃ v, parseIntB 64 s = .ok v ∧ ¬ (-9007199254740992 ≤ v ∧ v ≤ 9007199254740992))) := by
 unfold canonB at h
 rw [Bool.and_eq_true] at h
 obtain ⟨hd, _⟩ := h
 cases s with
 | nil => simp [body, digits] at hd
 | cons c r =>
  have hne : body (c :: r) ≠ [] := by
   intro e
   rw [e] at hd
   simp [digits] at hd
  have hall : (body (c :: r)).all digB = true := by
   unfold digits at hd
   rw [Bool.and_eq_true] at hd
   exact hd.1
  have hneg : ((c :: r).getD 0 0 == 45) = decide (c.toNat = 45) := by
   show (c == 45) = _
   rw [Bool.eq_iff_iff, beq_iff_eq, decide_eq_true_eq]
   exact ⟨fun e => by rw [e]; rfl, fun e => UInt8.toNat_inj.1 (by simpa using e)⟩
  have h43 : c.toNat ≠ 43 := by
   intro e
   have e2 : ((c :: r).getD 0 0 == 45) = false := by rw [hneg]; simp [e]
   unfold body at hall
   rw [e2] at hall
   simp only [Bool.false_eq_true, if_false, List.all_cons, Bool.and_eq_true, digB_iff] at hall
   omega
  have hb : (if c.toNat = 43 ∨ c.toNat = 45 then r else c :: r) = body (c :: r) := by
   unfold body
   rw [hneg]
   by_cases e : c.toNat = 45
   ·simp [e]
   ·simp [e, h43]
  have hu : parseUintB 64 (body (c :: r)) = if val (body (c :: r)) ≤ 18446744073709551615 then .ok (val (body (c :: r))) else .range := by
   unfold parseUintB
   rw [if_neg hne]
   have := uintM_digits _ 0 hall
   rw [if_neg hne, ← val_valA] at this
   exact this
  have hp : parseIntB 64 (c :: r) = match parseUintB 64 (body (c :: r)) with
    | .syntax => .syntax
    | .range => .range
    | .ok u => if ¬ c.toNat = 45 ∧ 2 ^ (64 - 1) ≤ u then .range else if c.toNat = 45 ∧ 2 ^ (64 - 1) < u then .range else .ok (if c.toNat = 45 then -(u : Int) else u) := by
   rw [← hb]; rfl
  rw [hp, hu, hneg]
  have e63 : 2 ^ (64 - 1) = 9223372036854775808 := by decide
  rw [e63]
  generalize val (body (c :: r)) = u
  by_cases hm : u ≤ 9007199254740992
  ·refine .inl ⟨hm, ?_⟩
   rw [if_pos (by omega)]
   dsimp only
   rw [if_neg (by omega), if_neg (by omega)]
   simp
  ·refine .inr ⟨by omega, ?_⟩
   by_cases h64 : u ≤ 18446744073709551615
   ·rw [if_pos h64]
    dsimp only
    split
    ·exact .inl rfl
    ·split
     ·exact .inl rfl
     ·refine .inr ⟨_, rfl, ?_⟩
      split <;> omega
   ·rw [if_neg h64]
    exact .inl rfl
end Num
end Go.Proofs.YtnjkemakcejceaaGreatDoor

namespace Go.Proofs.YtnjkemakcejceaaGreatDoor
open Go.RowKit
open Go.Op (bytesLess)
set_option maxHeartbeats 4000000
namespace Num
theorem digB_int (c : UInt8) : digB c = (decide (48 ≤ (c.toNat : Int)) && decide ((c.toNat : Int) ≤ 57)) := by
 unfold digB
 have e1 : decide (48 ≤ c.toNat) = decide (48 ≤ (c.toNat : Int)) := decide_eq_decide.2 (by omega)
 have e2 : decide (c.toNat ≤ 57) = decide ((c.toNat : Int) ≤ 57) := decide_eq_decide.2 (by omega)
 rw [e1, e2]
theorem all_fail {s : List UInt8} {j : Nat} (hj : j < s.length) (h : digB (s.getD j 0) = false) : digits s = false := by
 have : s.all digB = false := by
  rw [List.all_eq_false]
  refine ⟨s[j], List.getElem_mem hj, ?_⟩
  have e : s.getD j 0 = s[j] := by simp [List.getD, hj]
  rw [e] at h; rw [h]; decide
 unfold digits
 rw [this]; rfl
theorem all_end {s : List UInt8} (h : ∀ k, k < s.length → digB (s.getD k 0) = true) : digits s = (s != [] && (s.getD 0 0 != 48 || s.length == 1)) := by
 have h1 : s.all digB = true := by
  rw [List.all_eq_true]
  intro x hx
  obtain ⟨j, hj, rfl⟩ := List.getElem_of_mem hx
  have := h j hj
  have e : s.getD j 0 = s[j] := by simp [List.getD, hj]
  rwa [e] at this
 unfold digits
 rw [h1, Bool.true_and]
 match s with
 | [] => rfl
 | [c] =>
  by_cases e : c = 48
  ·subst e; rfl
  ·have e1 : (c == 48) = false := by simp [e]
   have e2 : ([c] == [48]) = false := by simp [e]
   have e3 : (c != 48) = true := by simp [e]
   show ([c] == [48] || ([c] != [] && c != 48)) = ([c] != [] && (c != 48 || ([c].length == 1)))
   rw [e2, e3]; rfl
 | c :: d :: r => simp
end Num
namespace AX
def c_canon : AX.AFn := ⟨44, .seq (.reg false [⟨some 2, .mv (.c (.bool false)), none, []⟩]) (.seq (.seq (.reg false [⟨some 4, .mv (.t 0), none, []⟩, ⟨some 5, .len true (.t 4), none, []⟩, ⟨some 6, .bin .gtr (.t 5) (.c (.int .i64 0)), none, []⟩, ⟨some 7, .mv (.t 6), none, []⟩, ⟨some 8, .mv (.t 0), some (7, true), []⟩, ⟨some 9, .sidx (.t 8) (.c (.int .i64 0)), some (7, true), []⟩, ⟨some 10, .bin .eql (.t 9) (.c (.int .u8 45)), some (7, true), []⟩, ⟨some 11, .pick (.t 7) (.t 10) (.c (.bool false)), none, []⟩]) (.cond (.t 11) (.seq (.reg false [⟨some 12, .mv (.t 0), none, []⟩, ⟨some 13, .ssl (.t 12) (some (.c (.int .i64 1))) none, none, []⟩, ⟨some 0, .mv (.t 13), none, []⟩]) (.seq (.reg false [⟨some 14, .mv (.t 0), none, []⟩, ⟨some 15, .bin .eql (.t 14) (.c (.str [48])), none, []⟩]) (.cond (.t 15) (.seq (.reg false [⟨some 2, .mv (.c (.bool false)), none, []⟩]) (.ret)) (.skip)))) (.skip))) (.seq (.seq (.reg false [⟨some 16, .mv (.t 0), none, []⟩, ⟨some 17, .len true (.t 16), none, []⟩, ⟨some 18, .mv (.c (.int .i64 0)), none, []⟩]) (.block 0 (.loop (.seq (.reg false [⟨some 19, .bin .lss (.t 18) (.t 17), none, []⟩]) (.seq (.cond (.t 19) (.skip) (.exit 0)) (.seq (.block 1 (.seq (.reg false [⟨some 20, .mv (.t 18), none, []⟩, ⟨some 3, .mv (.t 20), none, []⟩]) (.seq (.reg false [⟨some 21, .mv (.t 0), none, []⟩, ⟨some 22, .mv (.t 3), none, []⟩, ⟨some 23, .sidx (.t 21) (.t 22), none, []⟩, ⟨some 24, .bin .lss (.t 23) (.c (.int .u8 48)), none, []⟩, ⟨some 25, .mv (.t 24), none, []⟩, ⟨some 26, .mv (.t 0), some (25, false), []⟩, ⟨some 27, .mv (.t 3), some (25, false), []⟩, ⟨some 28, .sidx (.t 26) (.t 27), some (25, false), []⟩, ⟨some 29, .bin .gtr (.t 28) (.c (.int .u8 57)), some (25, false), []⟩, ⟨some 30, .pick (.t 25) (.c (.bool true)) (.t 29), none, []⟩]) (.cond (.t 30) (.seq (.reg false [⟨some 2, .mv (.c (.bool false)), none, []⟩]) (.ret)) (.skip))))) (.reg false [⟨some 31, .bin .add (.t 18) (.c (.int .i64 1)), none, []⟩, ⟨some 18, .mv (.t 31), none, []⟩]))))))) (.seq (.reg false [⟨some 32, .mv (.t 0), none, []⟩, ⟨some 33, .bin .neq (.t 32) (.c (.str [])), none, []⟩, ⟨some 34, .mv (.t 33), none, []⟩, ⟨some 35, .mv (.t 0), some (34, true), []⟩, ⟨some 36, .sidx (.t 35) (.c (.int .i64 0)), some (34, true), []⟩, ⟨some 37, .bin .neq (.t 36) (.c (.int .u8 48)), some (34, true), []⟩, ⟨some 38, .mv (.t 37), some (34, true), []⟩, ⟨some 39, .mv (.t 0), some (38, false), []⟩, ⟨some 40, .len true (.t 39), some (38, false), []⟩, ⟨some 41, .bin .eql (.t 40) (.c (.int .i64 1)), some (38, false), []⟩, ⟨some 42, .pick (.t 38) (.c (.bool true)) (.t 41), some (34, true), []⟩, ⟨some 43, .pick (.t 34) (.t 42) (.c (.bool false)), none, []⟩, ⟨some 2, .mv (.t 43), none, []⟩]) (.ret)))), [.t 2]⟩
theorem h_canon : AX.compFn Tryz.prog 149 = some c_canon := by kernel_rfl
theorem u8_beq (c : UInt8) (n : UInt8) : ((c.toNat : Int) == (n.toNat : Int)) = (c == n) := by
 rw [Bool.eq_iff_iff, beq_iff_eq, beq_iff_eq]
 exact ⟨fun e => UInt8.toNat_inj.1 (by omega), fun e => by rw [e]⟩
theorem calls_bool {P : Program} {G : World → Prop} {f : FuncId} {args : List A} {vs : List Value} {w : World} {b : Bool} (hc : ACall P G f args ⟨[], []⟩ fun v _ => v = .bool b) (hG : ∀ w' : World, (∀ g, g < w.heap.size → w'.heap[g]? = w.heap[g]?) → G w')
  (ha : RepL (Ctx.of w) args vs) : Calls P f vs.toArray w fun e w' => e = .returned (.bool b) ∧ Below w.heap.size w w' := by
 refine (hc (Ctx.of w) vs (inv_of hG) ha).mono ?_
 rintro e w' ⟨C', h', v, cv, rfl, rfl, _, st, hr, rfl⟩
 rw [rep_bool] at hr; subst hr
 exact ⟨rfl, st.os, st.tape, st.output, st.size, fun g hg => st.frame g hg rfl fun t ht => by simp [Ctx.of] at ht⟩
theorem a_canon (s : List UInt8) (hl : s.length ≤ 2000000) (h : Hp) : ACall Tryz.prog GT 149 [.str s] h fun r h' => r = .bool (Num.canonB s) ∧ h' = h := by
 refine pcall ?_ rfl (by simp [A.pure, A.data]) h
 refine acall_of mixedT h_canon (by simp [c_canon]) ?_
 dsimp only [c_canon]
 obtain ⟨R, hR⟩ : ∃ R, Num.canonB s = R := ⟨_, rfl⟩
 rw [hR]
 unfold Num.canonB Num.body at hR
 by_cases hn : s = []
 ·subst hn
  have e0 : ¬ ((0 : Nat) : Int) > 0 := by decide
  have e1 : ¬ (0 : Int) < ((0 : Nat) : Int) := by decide
  have hR' : R = false := by rw [← hR]; rfl
  subst hR'
  (refine AX.run0 e0 ?_)
  refine go_once ?_
  (refine AX.run0 e1 ?_)
  exact ⟨_, le_refl _, rfl⟩
 have hpos : (s.length : Int) > 0 := by
  have := List.length_pos_iff.2 hn; omega
 have h0 : (0 : Int) < (s.length : Int) := hpos
 obtain ⟨c, hc⟩ : ∃ c, s.getD 0 0 = c := ⟨_, rfl⟩
 rw [hc] at hR
 have e45 : ((c.toNat : Int) == 45) = (c == 45) := u8_beq c 45
 have hbody : ∃ t : List UInt8, t = (if c == 45 then s.drop 1 else s) := ⟨_, rfl⟩
 obtain ⟨t, ht⟩ := hbody
 rw [← ht] at hR
 have htl : t.length ≤ 2000000 := by
  rw [ht]; split
  ·rw [List.length_drop]; omega
  ·exact hl
 have hgr : ∀ j : Nat, t.getD j 0 = t.getD j 0 := fun _ => rfl
 have h1le : (1 : Int) ≤ (s.length : Int) := by omega
 have z1 : (0 : Int) ≤ 1 := by decide
 have n1 : (1 : Int).toNat = 1 := rfl
 have n0 : (0 : Int).toNat = 0 := rfl
 have key : ∀ {G : Prop}, ((c == 45) = true → t = s.drop 1 → G) → ((c == 45) = false → t = s → G) → G := fun p q => by
  cases e : c == 45
  ·exact q e (by rw [ht, e]; rfl)
  ·exact p e (by rw [ht, e]; rfl)
 refine key (fun m1 m2 => ?_) (fun m1 m2 => ?_)
 ·rw [m1, Bool.true_and] at hR
  have m3 : s.drop 1 = t := m2.symm
  have e10 : ((c.toNat : Int) == 45) = true := by rw [e45, m1]
  cases h48 : t == [48]
  rotate_left
  ·rw [h48] at hR
   have hR' : R = false := by rw [← hR, Bool.not_true, Bool.and_false]
   subst hR'
   (refine AX.run0 (And.intro hpos (And.intro h0 (And.intro n0 (And.intro hc (And.intro e10 (And.intro h1le (And.intro z1 (And.intro n1 (And.intro m3 h48))))))))) ?_)
   exact ⟨_, le_refl _, rfl⟩
  rw [h48, Bool.not_false, Bool.and_true] at hR
  (refine AX.run0 (And.intro hpos (And.intro h0 (And.intro n0 (And.intro hc (And.intro e10 (And.intro h1le (And.intro z1 (And.intro n1 (And.intro m3 h48))))))))) ?_)
  refine awp_loop (fun mm ts h => ∃ (j : Nat), mm = t.length - j ∧ j ≤ t.length ∧ h = ⟨[], []⟩ ∧ (∀ k, k < j → Num.digB (t.getD k 0) = true) ∧ ts 0 = .str t ∧ ts 17 = .int .i64 (t.length : Nat) ∧ ts 18 = .int .i64 (j : Nat)) t.length ?_ ?_
  ·exact ⟨0, by omega, by omega, rfl, fun k hk => absurd hk (Nat.not_lt_zero k), by (exact AX.ev0 m3), by (exact AX.ev0 m3), by (exact AX.inv0 True.intro)⟩
  rintro mm ts h ⟨j, rfl, hjc, rfl, hok, t0, t17, t18⟩
  by_cases hj : j < t.length
  ·have hlt : (j : Int) < (t.length : Int) := by omega
   have hj0 : (0 : Int) ≤ (j : Int) := by omega
   have ei : IntKind.i64.wrap ((j : Int) + 1) = ((j + 1 : Nat) : Int) := by rw [wrap64 (by omega) (by omega)]; omega
   obtain ⟨b, hb⟩ : ∃ b, t.getD j 0 = b := ⟨_, rfl⟩
   have hdg := Num.digB_int b
   obtain ⟨x, hx⟩ : ∃ x : Int, (b.toNat : Int) = x := ⟨_, rfl⟩
   rw [hx] at hdg
   by_cases x1 : x < 48
   ·have hR' : R = false := by rw [← hR]; exact Num.all_fail hj (by rw [hb, hdg, decide_eq_false (by omega)]; rfl)
    subst hR'
    (refine AX.run0 (And.intro t0 (And.intro t17 (And.intro t18 (And.intro hlt (And.intro hj0 (And.intro hb (And.intro hx x1))))))) ?_)
    exact ⟨_, le_refl _, rfl⟩
   by_cases x2 : x > 57
   ·have hR' : R = false := by rw [← hR]; exact Num.all_fail hj (by rw [hb, hdg, decide_eq_true (show 48 ≤ x by omega), decide_eq_false (by omega)]; rfl)
    subst hR'
    (refine AX.run0 (And.intro t0 (And.intro t17 (And.intro t18 (And.intro hlt (And.intro hj0 (And.intro hb (And.intro hx (And.intro x1 x2)))))))) ?_)
    exact ⟨_, le_refl _, rfl⟩
   ·(refine AX.run0 (And.intro t0 (And.intro t17 (And.intro t18 (And.intro hlt (And.intro hj0 (And.intro hb (And.intro hx (And.intro x1 (And.intro x2 ei))))))))) ?_)
    refine ⟨t.length - (j + 1), by omega, j + 1, rfl, by omega, rfl, fun k hk => ?_, by (exact AX.ev0 t0), by (exact AX.ev0 t17), by (exact AX.ev0 ei)⟩
    by_cases e : k = j
    ·rw [e, hb, hdg, decide_eq_true (show 48 ≤ x by omega), decide_eq_true (show x ≤ 57 by omega)]; rfl
    ·exact hok k (by omega)
  ·have hlt : ¬ ((j : Int) < (t.length : Int)) := by omega
   have hje : j = t.length := by omega
   rw [hje] at hok
   have hE := Num.all_end hok
   rw [hR] at hE
   cases hnt : t != []
   ·rw [hnt, Bool.false_and] at hE
    subst hE
    (refine AX.run0 (And.intro t0 (And.intro t17 (And.intro t18 (And.intro hlt hnt)))) ?_)
    exact ⟨_, le_refl _, rfl⟩
   rw [hnt, Bool.true_and] at hE
   have hp2 : (0 : Int) < (t.length : Int) := by
    have : t ≠ [] := by simpa using hnt
    have := List.length_pos_iff.2 this; omega
   obtain ⟨b, hb⟩ : ∃ b, t.getD 0 0 = b := ⟨_, rfl⟩
   rw [hb] at hE
   have e48 : ((b.toNat : Int) != 48) = (b != 48) := congrArg (!·) (u8_beq b 48)
   cases hb48 : b != 48
   ·rw [hb48, Bool.false_or] at hE
    rw [hb48] at e48
    have el : ((t.length : Int) == 1) = (t.length == 1) := by
     rw [Bool.eq_iff_iff, beq_iff_eq, beq_iff_eq]; omega
    rw [← hE] at el
    (refine AX.run0 (And.intro t0 (And.intro t17 (And.intro t18 (And.intro hlt (And.intro hnt (And.intro hp2 (And.intro n0 (And.intro hb (And.intro e48 el))))))))) ?_)
    exact ⟨_, le_refl _, rfl⟩
   ·rw [hb48, Bool.true_or] at hE
    subst hE
    rw [hb48] at e48
    (refine AX.run0 (And.intro t0 (And.intro t17 (And.intro t18 (And.intro hlt (And.intro hnt (And.intro hp2 (And.intro n0 (And.intro hb e48)))))))) ?_)
    exact ⟨_, le_refl _, rfl⟩
 ·have e10 : ((c.toNat : Int) == 45) = false := by rw [e45, m1]
  rw [m1, Bool.false_and, Bool.not_false, Bool.and_true] at hR
  have m3 : s = t := m2.symm
  (refine AX.run0 (And.intro hpos (And.intro h0 (And.intro n0 (And.intro hc e10)))) ?_)
  refine awp_loop (fun mm ts h => ∃ (j : Nat), mm = t.length - j ∧ j ≤ t.length ∧ h = ⟨[], []⟩ ∧ (∀ k, k < j → Num.digB (t.getD k 0) = true) ∧ ts 0 = .str t ∧ ts 17 = .int .i64 (t.length : Nat) ∧ ts 18 = .int .i64 (j : Nat)) t.length ?_ ?_
  ·exact ⟨0, by omega, by omega, rfl, fun k hk => absurd hk (Nat.not_lt_zero k), by (exact AX.ev0 m3), by (exact AX.ev0 m3), by (exact AX.inv0 True.intro)⟩
  rintro mm ts h ⟨j, rfl, hjc, rfl, hok, t0, t17, t18⟩
  by_cases hj : j < t.length
  ·have hlt : (j : Int) < (t.length : Int) := by omega
   have hj0 : (0 : Int) ≤ (j : Int) := by omega
   have ei : IntKind.i64.wrap ((j : Int) + 1) = ((j + 1 : Nat) : Int) := by rw [wrap64 (by omega) (by omega)]; omega
   obtain ⟨b, hb⟩ : ∃ b, t.getD j 0 = b := ⟨_, rfl⟩
   have hdg := Num.digB_int b
   obtain ⟨x, hx⟩ : ∃ x : Int, (b.toNat : Int) = x := ⟨_, rfl⟩
   rw [hx] at hdg
   by_cases x1 : x < 48
   ·have hR' : R = false := by rw [← hR]; exact Num.all_fail hj (by rw [hb, hdg, decide_eq_false (by omega)]; rfl)
    subst hR'
    (refine AX.run0 (And.intro t0 (And.intro t17 (And.intro t18 (And.intro hlt (And.intro hj0 (And.intro hb (And.intro hx x1))))))) ?_)
    exact ⟨_, le_refl _, rfl⟩
   by_cases x2 : x > 57
   ·have hR' : R = false := by rw [← hR]; exact Num.all_fail hj (by rw [hb, hdg, decide_eq_true (show 48 ≤ x by omega), decide_eq_false (by omega)]; rfl)
    subst hR'
    (refine AX.run0 (And.intro t0 (And.intro t17 (And.intro t18 (And.intro hlt (And.intro hj0 (And.intro hb (And.intro hx (And.intro x1 x2)))))))) ?_)
    exact ⟨_, le_refl _, rfl⟩
   ·(refine AX.run0 (And.intro t0 (And.intro t17 (And.intro t18 (And.intro hlt (And.intro hj0 (And.intro hb (And.intro hx (And.intro x1 (And.intro x2 ei))))))))) ?_)
    refine ⟨t.length - (j + 1), by omega, j + 1, rfl, by omega, rfl, fun k hk => ?_, by (exact AX.ev0 t0), by (exact AX.ev0 t17), by (exact AX.ev0 ei)⟩
    by_cases e : k = j
    ·rw [e, hb, hdg, decide_eq_true (show 48 ≤ x by omega), decide_eq_true (show x ≤ 57 by omega)]; rfl
    ·exact hok k (by omega)
  ·have hlt : ¬ ((j : Int) < (t.length : Int)) := by omega
   have hje : j = t.length := by omega
   rw [hje] at hok
   have hE := Num.all_end hok
   rw [hR] at hE
   cases hnt : t != []
   ·rw [hnt, Bool.false_and] at hE
    subst hE
    (refine AX.run0 (And.intro t0 (And.intro t17 (And.intro t18 (And.intro hlt hnt)))) ?_)
    exact ⟨_, le_refl _, rfl⟩
   rw [hnt, Bool.true_and] at hE
   have hp2 : (0 : Int) < (t.length : Int) := by
    have : t ≠ [] := by simpa using hnt
    have := List.length_pos_iff.2 this; omega
   obtain ⟨b, hb⟩ : ∃ b, t.getD 0 0 = b := ⟨_, rfl⟩
   rw [hb] at hE
   have e48 : ((b.toNat : Int) != 48) = (b != 48) := congrArg (!·) (u8_beq b 48)
   cases hb48 : b != 48
   ·rw [hb48, Bool.false_or] at hE
    rw [hb48] at e48
    have el : ((t.length : Int) == 1) = (t.length == 1) := by
     rw [Bool.eq_iff_iff, beq_iff_eq, beq_iff_eq]; omega
    rw [← hE] at el
    (refine AX.run0 (And.intro t0 (And.intro t17 (And.intro t18 (And.intro hlt (And.intro hnt (And.intro hp2 (And.intro n0 (And.intro hb (And.intro e48 el))))))))) ?_)
    exact ⟨_, le_refl _, rfl⟩
   ·rw [hb48, Bool.true_or] at hE
    subst hE
    rw [hb48] at e48
    (refine AX.run0 (And.intro t0 (And.intro t17 (And.intro t18 (And.intro hlt (And.intro hnt (And.intro hp2 (And.intro n0 (And.intro hb e48)))))))) ?_)
    exact ⟨_, le_refl _, rfl⟩
end AX
theorem numParse_any (l : List UInt8) (hl : l.length ≤ 2000000) (w : World) (g : GT w) :
  Calls Tryz.prog 114 #[.string ⟨l.toArray⟩] w fun e w' => e = .returned (.tuple #[.int .i64 (Num.parse l).1, .int .i64 (Num.parse l).2]) ∧ Below w.heap.size w w' := by
 have hc := AX.calls_bool (w := w) (vs := [.string ⟨l.toArray⟩]) ((AX.a_canon l hl ⟨[], []⟩).mono fun v h' hv => hv.1) (AX.gt_keep g) (AX.repL_cons.2 ⟨_, _, rfl, AX.rep_str.2 rfl, AX.repL_nil.2 rfl⟩)
 have hf := Num.parse_form l
 obtain ⟨P1, hP1⟩ : ∃ p, Num.parse l = p := ⟨_, rfl⟩
 rw [hP1] at hf ⊢
 cases hB : Num.canonB l
 ·rw [hB, if_pos rfl] at hf
  subst hf
  rw [hB] at hc
  go_enter Tryz.func114, Tryz.ntmps114
  go_wp2_with fail
  refine hc.mono ?_; rintro e w1 ⟨rfl, b1⟩
  have B1 := kept b1; clear b1
  go_wp2
  refine bodyPost_ret (v := .tuple #[.int .i64 0, .int .i64 2]) (by simp [results, Tryz.results114, go_sem]) rfl ⟨rfl, B1.out⟩
 ·rw [hB, if_neg (by decide)] at hf
  rw [hB] at hc
  have hsz : (⟨l.toArray⟩ : ByteArray).size ≤ 9223372036854775806 := by rw [size_mk]; omega
  have hlim : (⟨l.toArray⟩ : ByteArray).size ≤ 281474976710656 := by rw [size_mk]; omega
  have hsyn := g.esyn
  obtain ⟨ev, hev, hev2⟩ := g.erng
  have nilne : ∀ (a b : Value), True := fun _ _ => True.intro
  rcases Num.parseIntB_canon l hB with ⟨h1, h2⟩ | ⟨h1, h2 | ⟨v, h2, h3⟩⟩
  ·rw [if_neg (by omega)] at hf
   obtain ⟨v, hv⟩ : ∃ v : Int, (if l.getD 0 0 == 45 then -(Num.val (Num.body l) : Int) else (Num.val (Num.body l) : Int)) = v := ⟨_, rfl⟩
   rw [hv] at h2 hf
   have hvr : -9007199254740992 ≤ v ∧ v ≤ 9007199254740992 := by rw [← hv]; split <;> omega
   have hp : ∀ w' : World, Calls Tryz.prog 150 #[.string ⟨l.toArray⟩, .int .i64 10, .int .i64 64] w' fun e w2 => e = .returned (.tuple #[.int .i64 v, .nilIface]) ∧ (w2 = w' ∨ ∃ t, w2 = Lib.bytesWorld w' 5 t) := fun w' => Any.strconv_ParseInt_10_at64_ok (P := Tryz.prog) Tryz.lays174 ⟨l.toArray⟩ hsz v h2 w'
   have Hnv := kept (fun w' => numValid_any v w')
   rw [decide_eq_true hvr] at Hnv
   subst hf
   have Hp := kept hp
   clear hp hsz hlim hsyn hev hev2 hvr hv h1 h2 hB
   go_enter Tryz.func114, Tryz.ntmps114
   go_wp2_with fail
   refine hc.mono ?_; rintro e w1 ⟨rfl, b1⟩
   have B1 := kept b1; clear b1
   go_wp2_with fail
   (with_reducible refine (Hp.out _).mono ?_); rintro e w2 ⟨rfl, hw⟩
   have B2 : Kept (Below w.heap.size w w2) := kept (by
    rcases hw with rfl | ⟨t, rfl⟩
    ·exact B1.out
    ·exact bthen B1.out (Lib.bytesWorld_below _ _ _))
   clear hw
   go_wp2_with fail
   (with_reducible refine (Hnv.out _).mono ?_); rintro e w3 ⟨rfl, rfl⟩
   go_wp2
   refine bodyPost_ret (v := .tuple #[.int .i64 v, .int .i64 0]) (by simp [results, Tryz.results114, go_sem]) rfl ⟨rfl, B2.out⟩
  ·rw [if_pos (by omega)] at hf
   have hp : ∀ w' : World, w'.cell? ⟨4, 0, none⟩ = some ev → Calls Tryz.prog 150 #[.string ⟨l.toArray⟩, .int .i64 10, .int .i64 64] w' fun e w2 => (∃ a b c, e = .returned (.tuple #[.int .i64 a, .iface b c])) ∧ Below w'.heap.size w' w2 := fun w' hv => (Any.strconv_ParseInt_10_at64_range (P := Tryz.prog) Tryz.lays174 ⟨l.toArray⟩ hlim h2 ev w' hv hev2).mono fun e w2 ⟨N, q1, q2, q3, q4⟩ => ⟨⟨_, _, _, q1⟩, q4⟩
   subst hf
   have Hp := kept hp
   have Hev := kept hev
   clear hp hsz hlim hsyn hev hev2 h1 h2 hB
   go_enter Tryz.func114, Tryz.ntmps114
   go_wp2_with fail
   refine hc.mono ?_; rintro e w1 ⟨rfl, b1⟩
   have B1 := kept b1
   have Hev1 := kept (show w1.cell? ⟨4, 0, none⟩ = some ev from by rw [← Hev.out]; simp only [World.cell?, b1.block _ (cell_there Hev.out).2])
   clear b1
   go_wp2_with fail
   (with_reducible refine (Hp.out _ Hev1.out).mono ?_); rintro e w2 ⟨⟨a, b, c, rfl⟩, b2⟩
   have B2 : Kept (Below w.heap.size w w2) := kept (bthen B1.out b2)
   clear b2
   go_wp2
   refine bodyPost_ret (v := .tuple #[.int .i64 0, .int .i64 5]) (by simp [results, Tryz.results114, go_sem]) rfl ⟨rfl, B2.out⟩
  ·rw [if_pos (by omega)] at hf
   have hp : ∀ w' : World, Calls Tryz.prog 150 #[.string ⟨l.toArray⟩, .int .i64 10, .int .i64 64] w' fun e w2 => e = .returned (.tuple #[.int .i64 v, .nilIface]) ∧ (w2 = w' ∨ ∃ t, w2 = Lib.bytesWorld w' 5 t) := fun w' => Any.strconv_ParseInt_10_at64_ok (P := Tryz.prog) Tryz.lays174 ⟨l.toArray⟩ hsz v h2 w'
   have Hnv := kept (fun w' => numValid_any v w')
   rw [decide_eq_false h3] at Hnv
   subst hf
   have Hp := kept hp
   clear hp hsz hlim hsyn hev hev2 h3 h1 h2 hB
   go_enter Tryz.func114, Tryz.ntmps114
   go_wp2_with fail
   refine hc.mono ?_; rintro e w1 ⟨rfl, b1⟩
   have B1 := kept b1; clear b1
   go_wp2_with fail
   (with_reducible refine (Hp.out _).mono ?_); rintro e w2 ⟨rfl, hw⟩
   have B2 : Kept (Below w.heap.size w w2) := kept (by
    rcases hw with rfl | ⟨t, rfl⟩
    ·exact B1.out
    ·exact bthen B1.out (Lib.bytesWorld_below _ _ _))
   clear hw
   go_wp2_with fail
   (with_reducible refine (Hnv.out _).mono ?_); rintro e w3 ⟨rfl, rfl⟩
   go_wp2
   refine bodyPost_ret (v := .tuple #[.int .i64 0, .int .i64 5]) (by simp [results, Tryz.results114, go_sem]) rfl ⟨rfl, B2.out⟩
theorem AX.a_numParse (s : List UInt8) (hl : s.length ≤ 2000000) (h : AX.Hp) : AX.ACall Tryz.prog GT 114 [.str s] h fun r h' => r = .tup [.int .i64 (Num.parse s).1, .int .i64 (Num.parse s).2] ∧ h' = h :=
 AX.acall_imp (AX.args1 AX.r_str) (fun w hg => numParse_any s hl w hg) (fun C => AX.rep_tup.2 ⟨_, rfl, AX.repL_cons.2 ⟨_, _, rfl, AX.rep_int.2 rfl, AX.repL_cons.2 ⟨_, _, rfl, AX.rep_int.2 rfl, AX.repL_nil.2 rfl⟩⟩⟩) h
end Go.Proofs.YtnjkemakcejceaaGreatDoor

namespace Go.Proofs.YtnjkemakcejceaaGreatDoor
open Go.RowKit Go.Lib
def stops : ByteArray := ⟨#[46, 91]⟩
theorem below_iter (w : World) (s : ByteArray) (p : Nat) : Below w.heap.size w (w.iter s p) := by
 refine ⟨rfl, rfl, rfl, ?_, fun g hg => ?_⟩
 ·show w.heap.size ≤ (w.heap.push (Obj.stringIter s p)).size
  simp
 ·show (w.heap.push (Obj.stringIter s p))[g]? = _
  rw [Array.getElem?_push, if_neg (by omega)]
set_option maxHeartbeats 2000000 in
set_option maxRecDepth 100000 in
theorem indexRune_err (w : World) : Calls Tryz.prog 187 #[.string stops, .int .i32 65533] w fun e w' => e = .returned (.int .i64 (-1)) ∧ Below w.heap.size w w' := by
 go_enter Tryz.func187, Tryz.ntmps187
 have hsz : stops.size = 2 := rfl
 go_wp2_with fail
 go_loopg [5, 6] 2 (fun g _ _ wx => ∃ i : Nat, i + g = 2 ∧ wx = w.iter stops i)
 case atStart => exact ⟨0, by omega, rfl⟩
 case round =>
  obtain ⟨i, hig, rfl⟩ := hrel
  cases gk with
  | zero =>
   obtain rfl : i = 2 := by omega
   have hnx := fun ty => run_next_end (P := Tryz.prog) w stops 2 ty (by decide)
   go_wp2
   go_ret
   exact ⟨rfl, below_iter w stops 2⟩
  | succ g =>
   have hi : i = 0 ∨ i = 1 := by omega
   rcases hi with rfl | rfl
   ·have hnx := fun ty => run_next_ascii (P := Tryz.prog) w stops 0 ty (by decide) (by decide)
    have e0 : ((stops[0]'(by decide)).toNat : Int) = 46 := rfl
    rw [e0] at hnx
    go_wp2
    go_roundg g
    case measure => omega
    case rel => exact ⟨1, by omega, rfl⟩
   ·have hnx := fun ty => run_next_ascii (P := Tryz.prog) w stops 1 ty (by decide) (by decide)
    have e0 : ((stops[1]'(by decide)).toNat : Int) = 91 := rfl
    rw [e0] at hnx
    go_wp2
    go_roundg g
    case measure => omega
    case rel => exact ⟨2, by omega, rfl⟩
set_option maxHeartbeats 2000000 in
set_option maxRecDepth 100000 in
theorem indexRune_hi (r : Int) (h0 : 128 ≤ r) (h1 : r ≤ 2147483647) (hr : r ≠ 65533) (w : World) : Calls Tryz.prog 187 #[.string stops, .int .i32 r] w fun e w' => e = .returned (.int .i64 (-1)) ∧ Below w.heap.size w w' := by
 go_enter Tryz.func187, Tryz.ntmps187
 have hsz : stops.size = 2 := rfl
 have c1 : decide (0 ≤ r) = true := decide_eq_true (by omega)
 have c2 : decide (r < 128) = false := decide_eq_false (by omega)
 have c3 : (r == 65533) = false := beq_eq_false_iff_ne.2 hr
 have Hv := kept (fun w => Tryz.utf8_ValidRune r w)
 cases hv : Lib.validRune r
 ·go_wp2_with fail
  (with_reducible refine (Hv.out _).mono ?_); rintro e w1 ⟨rfl, rfl⟩
  rw [hv]
  go_wp2
  go_ret
  exact ⟨rfl, Below.refl _ _⟩
 ·have hval : Utf8.valid r = true := by rw [Go.validRune_eq]; unfold Lib.validRune at hv; unfold Go.validRune; exact hv
  obtain ⟨f1, f2, f3⟩ := encode_facts r hval h0
  go_wp2_with fail
  (with_reducible refine (Hv.out _).mono ?_); rintro e w1 ⟨rfl, rfl⟩
  rw [hv]
  have e1 : IntKind.i64.wrap (((Utf8.encode r).size : Int) - 1) = (((Utf8.encode r).size - 1 : Nat) : Int) := by rw [show ((Utf8.encode r).size : Int) - 1 = (((Utf8.encode r).size - 1 : Nat) : Int) by omega]; exact Go.IntWalk.i64_in _ ⟨by omega, by omega⟩
  have hcv := fun (w : World) => run_convert_int_string (P := Tryz.prog) w 21 9 .i32 r rfl rfl
  go_wp2_with fail
  apply wp_scope_straight
  go_wp2
  go_loopg [9, 10, 11, 12] 1 (fun g v9 v10 v11 v12 wx => wx = w1 ∧ v9 = .int .i64 (((Utf8.encode r).size - 1 : Nat) : Int))
  case atStart => exact ⟨rfl, rfl⟩
  case round =>
   obtain ⟨rfl, rfl⟩ := hrel
   by_cases h2 : (Utf8.encode r).size = 2
   ·have e2 : (Utf8.encode r).size - 1 = 1 := by omega
    obtain ⟨x, hx⟩ : ∃ x : UInt8, (Utf8.encode r)[1]'(by omega) = x := ⟨_, rfl⟩
    have hx1 : 128 ≤ x.toNat := by
     have := f3 (by omega)
     simp only [e2] at this
     rw [hx] at this; exact this
    have hi1 : (1 : Nat) < (Utf8.encode r).size := by omega
    have hs1 : (stops[1]'(by decide)).toNat = 91 := rfl
    have hne : ((91 : Int) != (x.toNat : Int)) = true := by simp; omega
    have e3 : (((Utf8.encode r).size - 1 : Nat) : Int) = 1 := by omega
    have hi2 : (1 : Int) < ((Utf8.encode r).size : Int) := by omega
    rw [e3]
    go_wp2
    apply wp_scope_straight
    go_wp2_with fail
    go_region
    have hw2 : IntKind.i64.wrap ((1 : Int) + 1) = 2 := rfl
    have hib0 : Lib.indexByte [] x = -1 := rfl
    go_wp2_with fail
    go_region_with ((with_reducible refine (Tryz.strings_IndexByte _ _ _).mono ?_); rintro e2 w2 ⟨rfl, rfl⟩)
    all_goals
     go_wp2
     rw [Exit.noGoto_ret]
     go_wp2
     rw [Exit.noGoto_ret]
     go_wp2
     go_ret
     first | exact ⟨rfl, below_drewN (Below.refl _ _) 2⟩ | exact ⟨rfl, below_drewN _ 2⟩
   ·have hlt : ¬ ((((Utf8.encode r).size - 1 : Nat) : Int) < (stops.size : Int)) := by omega
    go_wp2
    go_ret
    exact ⟨rfl, Below.refl _ _⟩
theorem decode_conts (s : ByteArray) (i j : Nat) (h1 : 1 ≤ j) (hj : j < (Utf8.decode s i).2) : i + j < s.size ∧ 128 ≤ (s.get! (i + j)).toNat := by
 unfold Utf8.decode at hj
 dsimp only at hj
 split at hj
 ·simp only at hj; omega
 ·split at hj
  ·next h =>
   simp only [Bool.and_eq_true, decide_eq_true_eq, beq_iff_eq] at h
   split at hj
   ·simp only at hj
    obtain rfl : j = 1 := by omega
    omega
   ·simp only at hj; omega
  ·split at hj
   ·next h =>
    simp only [Bool.and_eq_true, decide_eq_true_eq, beq_iff_eq] at h
    split at hj
    ·simp only at hj
     have : j = 1 ∨ j = 2 := by omega
     rcases this with rfl | rfl <;> omega
    ·simp only at hj; omega
   ·split at hj
    ·next h =>
     simp only [Bool.and_eq_true, decide_eq_true_eq, beq_iff_eq] at h
     split at hj
     ·simp only at hj
      have : j = 1 ∨ j = 2 ∨ j = 3 := by omega
      rcases this with rfl | rfl | rfl <;> omega
     ·simp only at hj; omega
    ·simp only at hj; omega
theorem indexRune_any (r : Int) (h0 : 128 ≤ r) (h1 : r ≤ 2147483647) (w : World) : Calls Tryz.prog 187 #[.string stops, .int .i32 r] w fun e w' => e = .returned (.int .i64 (-1)) ∧ Below w.heap.size w w' := by
 by_cases h : r = 65533
 ·subst h; exact indexRune_err w
 ·exact indexRune_hi r h0 h1 h w
theorem noAny_skip {s : ByteArray} {i : Nat} (hi : i < s.size) (hx : 128 ≤ (s[i]'hi).toNat) (h : Lib.NoAny s.data.toList stops.data.toList i) : Lib.NoAny s.data.toList stops.data.toList (i + (Utf8.decode s i).2) ∧ i + (Utf8.decode s i).2 ≤ s.size ∧ 1 ≤ (Utf8.decode s i).2 := by
 have hd := (decode_high s i hi hx).2
 refine ⟨fun j b hj hb => ?_, ?_, hd⟩
 ·by_cases hji : j < i
  ·exact h j b hji hb
  ·have hjs : j < s.size := by
    have := (List.getElem?_eq_some_iff.1 hb).1
    simpa using this
   have hb' : b = s[j]'hjs := by
    have := Lib.data_getElem? s j hjs
    rw [this] at hb; exact (Option.some.inj hb).symm
   have h128 : 128 ≤ b.toNat := by
    by_cases hji2 : j = i
    ·subst hji2; rw [hb']; exact hx
    ·have := (decode_conts s i (j - i) (by omega) (by omega)).2
     rw [show i + (j - i) = j by omega] at this
     rw [hb']
     have e : s.get! j = s[j]'hjs := get_at s j hjs
     rw [e] at this; exact this
   have hne : b ≠ 46 ∧ b ≠ 91 := by
    constructor
    ·rintro rfl; exact absurd h128 (by decide)
    ·rintro rfl; exact absurd h128 (by decide)
   show [(46 : UInt8), 91].contains b = false
   simp [hne.1, hne.2]
 ·by_cases h1 : (Utf8.decode s i).2 = 1
  ·omega
  ·have := (decode_conts s i ((Utf8.decode s i).2 - 1) (by omega) (by omega)).1
   omega
set_option maxHeartbeats 2000000 in
set_option maxRecDepth 100000 in
theorem indexAny_short (s : ByteArray) (w : World) (h8 : s.size ≤ 8) : Calls Tryz.prog 159 #[.string s, .string stops] w fun e w' => e = .returned (.int .i64 (Lib.indexAny s.data.toList stops.data.toList)) ∧ Below w.heap.size w w' := by
 have hss : stops.size = 2 := rfl
 have hemp : stops.toList.isEmpty = false := by rw [Lib.toList_data]; rfl
 have hn1 : ((stops.size : Int) == 1) = false := rfl
 have h8z : decide ((8 : Int) < (s.size : Int)) = false := decide_eq_false (by omega)
 go_enter Tryz.func159, Tryz.ntmps159
 go_wp2_with fail
 (with_reducible refine (Tryz.strings_shouldUseASCIISet _ _).mono ?_); rintro e w1 ⟨rfl, rfl⟩
 rw [h8z]
 go_wp2_with fail
 go_loopg [9, 10] s.size (fun g _ _ wx => ∃ i : Nat, s.size ≤ i + g ∧ i ≤ s.size ∧ wx.heap[w1.heap.size]? = some (.stringIter s i) ∧ Below w1.heap.size w1 wx ∧ Lib.NoAny s.data.toList stops.data.toList i)
 case atStart => exact ⟨0, by omega, by omega, World.iter_heap _ _ _, below_iter _ _ _, Lib.NoAny.zero _ _⟩
 case round =>
  obtain ⟨i, hig, his, hit, hbel, hno⟩ := hrel
  by_cases hi : i < s.size
  ·cases gk with
   | zero => omega
   | succ g =>
    obtain ⟨x, hx⟩ : ∃ x : UInt8, s[i]'hi = x := ⟨_, rfl⟩
    have hxl : s.data.toList[i]? = some x := by rw [← hx]; exact Lib.data_getElem? s i hi
    by_cases ha : x.toNat < 128
    ·have hnx := fun ty => run_next_ascii_at (P := Tryz.prog) wr w1.heap.size s i ty hit hi (by rw [hx]; exact ha)
     rw [hx] at hnx
     have Hit := kept (iterAt_heap wr w1.heap.size s i (i + 1) hit)
     have Hbel := kept (below_iterAt hbel (Nat.le_refl _) s (i + 1))
     have Hno := kept hno
     have Hxl := kept hxl
     have hcon := Lib.contains_iff_indexByte stops.data.toList x
     have hback : ((x.toNat : Int)).toNat.toUInt8 = x := by simp
     have Hx := kept hx
     clear hit hbel hno hxl hx
     cases hin : stops.data.toList.contains x
     ·rw [hin] at hcon
      have hlt : ¬ ((0 : Int) ≤ Lib.indexByte stops.data.toList x) := of_decide_eq_false hcon.symm
      clear hcon
      go_wp2_with fail
      (with_reducible refine (Tryz.strings_IndexRune_ascii _ _ _ (by omega) (by omega)).mono ?_); rintro e w2 ⟨rfl, rfl⟩
      rw [hback]
      go_wp2
      go_roundg g
      case measure => omega
      case rel => exact ⟨i + 1, by omega, by omega, Hit.out, Hbel.out, Hno.out.succ Hxl.out hin⟩
     ·rw [hin] at hcon
      have hge : (0 : Int) ≤ Lib.indexByte stops.data.toList x := of_decide_eq_true hcon.symm
      clear hcon
      go_wp2_with fail
      (with_reducible refine (Tryz.strings_IndexRune_ascii _ _ _ (by omega) (by omega)).mono ?_); rintro e w2 ⟨rfl, rfl⟩
      rw [hback]
      go_wp2
      go_ret
      exact ⟨by rw [Lib.indexAny_hit Hno.out Hxl.out hin]; rfl, Hbel.out⟩
    ·have hx128 : 128 ≤ (s[i]'hi).toNat := by rw [hx]; omega
     obtain ⟨k1, k2, k3⟩ := noAny_skip hi hx128 hno
     have d1 := (decode_high s i hi hx128).1
     have d2 := decode_le s i
     have hnx := fun ty => run_next_any_at (P := Tryz.prog) wr w1.heap.size s i ty hit hi
     obtain ⟨⟨c, d⟩, hcd⟩ : ∃ p, Utf8.decode s i = p := ⟨_, rfl⟩
     rw [hcd] at k1 k2 k3 d1 d2 hnx
     dsimp only at k1 k2 k3 d1 d2 hnx
     have Hit := kept (iterAt_heap wr w1.heap.size s i (i + d) hit)
     have Hbel := kept (below_iterAt hbel (Nat.le_refl _) s (i + d))
     have K1 := kept k1
     clear hit hbel hno hxl hx hx128 hcd k1
     go_wp2_with fail
     (with_reducible refine (indexRune_any _ (by omega) (by omega) _).mono ?_); rintro e w2 ⟨rfl, b2⟩
     have hit2 : w2.heap[w1.heap.size]? = some (.stringIter s (i + d)) := by rw [b2.block _ (Array.getElem?_eq_some_iff.1 Hit.out).1]; exact Hit.out
     have Hit2 := kept hit2
     have Hbel2 := kept (Hbel.out.trans (b2.mono (by have := Hbel.out.size; exact this)))
     clear hit2 b2
     go_wp2
     go_roundg g
     case measure => omega
     case rel => exact ⟨i + d, by omega, by omega, Hit2.out, Hbel2.out, K1.out⟩
  ·obtain rfl : i = s.size := by omega
   have hnx := fun ty => run_next_end_at (P := Tryz.prog) wr w1.heap.size s s.size ty hit (by omega)
   have Hno := kept hno
   have Hbel := kept hbel
   clear hno hbel
   go_wp2
   go_ret
   exact ⟨by rw [Lib.indexAny_none (by rw [← Lib.size_eq]; exact Hno.out)]; rfl, Hbel.out⟩
set_option maxHeartbeats 8000000 in
set_option maxRecDepth 1000000 in
theorem indexAny_long (s : ByteArray) (h8 : 8 < s.size) (hs : s.size ≤ 9223372036854775807) (w : World) : Calls Tryz.prog 159 #[.string s, .string stops] w fun e w' => e = .returned (.int .i64 (Lib.indexAny s.data.toList stops.data.toList)) ∧ Below w.heap.size w w' := by
 have hz := zero_of_info (P := Tryz.prog) (t := 228) (n := 256) (v := .agg (Array.replicate 256 (.bool false))) (by kernel_rfl)
 obtain ⟨cells, hcells⟩ : ∃ c, Lib.setCells stops.data.toList = c := ⟨_, rfl⟩
 have hasc : ∀ (j : Nat) b, stops.data.toList[j]? = some b → b.toNat < 128 := by
  intro j b hb
  match j, hb with
  | 0, hb => cases hb; decide
  | 1, hb => cases hb; decide
  | j + 2, hb => simp [stops] at hb
 have Hset := kept (Tryz.strings_makeASCIISet hz.1 stops w (by decide) hasc)
 obtain ⟨W, hW⟩ : ∃ W, (w.alloc (.cells cells 228)).alloc (.cells cells 228) = W := ⟨_, rfl⟩
 have hbel : Below w.heap.size w W := by
  rw [← hW]
  exact ((Below.refl _ _).alloc (Nat.le_refl _) _).alloc (((Below.refl w.heap.size w).alloc (Nat.le_refl _) (.cells cells 228)).size) _
 have hcell : ∀ x : UInt8, W.cell? ⟨w.heap.size + 1, x.toNat, none⟩ = some (.bool (stops.data.toList.contains x)) := fun x => by
  rw [← hW, World.cell?_alloc_at _ _ _ _ (by simp), ← hcells, Lib.setCells_at]
 have hst : (storeCells ⟨w.heap.size + 1, 0, none⟩ cells.toList 0).run Tryz.prog ((w.alloc (.cells cells 228)).alloc (.cells (Array.replicate 256 (.bool false)) 228)) = .ok () W := by
  have := run_storeCells_new (P := Tryz.prog) (w.alloc (.cells cells 228)) 228 (Array.replicate 256 (.bool false)) cells (by rw [← hcells, Lib.setCells_size]; exact hz.2) (by rw [← hcells, Lib.setCells_size, Array.size_replicate]) (by rw [← hcells]; exact Lib.setCells_one _)
  rw [hW] at this
  simpa using this
 have hemp : stops.toList.isEmpty = false := by rw [Lib.toList_data]; rfl
 have hn1 : ((stops.size : Int) == 1) = false := rfl
 have h8z : decide ((8 : Int) < (s.size : Int)) = true := decide_eq_true (by omega)
 have HC := kept hcell
 have HB := kept hbel
 clear hcell hbel
 rw [hcells] at Hset
 go_enter Tryz.func159, Tryz.ntmps159
 go_wp2_with fail
 (with_reducible refine (Tryz.strings_shouldUseASCIISet _ _).mono ?_); rintro e w1 ⟨rfl, rfl⟩
 rw [h8z]
 go_wp2_with fail
 (with_reducible refine Hset.out.mono ?_); rintro e w1 ⟨rfl, rfl⟩
 have hcsz : cells.size = 256 := by rw [← hcells]; exact Lib.setCells_size _
 have e0 : Tryz.zeroCells228 = Array.replicate 256 (.bool false) := by kernel_rfl
 go_wp2
 go_loopg [8] s.size (fun g s8 wx => ∃ i : Nat, i + g = s.size ∧ s8 = .int .i64 i ∧ wx = W ∧ Lib.NoAny s.data.toList stops.data.toList i)
 case atStart => exact ⟨0, by omega, rfl, rfl, Lib.NoAny.zero _ _⟩
 case round =>
  obtain ⟨i, hig, rfl, rfl, hno⟩ := hrel
  have HN := kept hno
  clear hno
  cases gk with
  | zero =>
   obtain rfl : i = s.size := by omega
   have hiz : ¬ ((s.size : Int) < (s.size : Int)) := by omega
   go_wp2
   go_ret
   exact ⟨by rw [Lib.indexAny_none (by rw [← Lib.size_eq]; exact HN.out)]; rfl, HB.out⟩
  | succ g =>
   have hi : i < s.size := by omega
   have hiz : (i : Int) < (s.size : Int) := by omega
   have hw : IntKind.i64.wrap ((i : Int) + 1) = (i : Int) + 1 := Go.IntWalk.i64_in _ ⟨by omega, by omega⟩
   obtain ⟨x, hx⟩ : ∃ x : UInt8, s[i]'hi = x := ⟨_, rfl⟩
   have hxl : s.data.toList[i]? = some x := by rw [← hx]; exact Lib.data_getElem? s i hi
   have Hxl := kept hxl
   clear hxl
   have hcx := HC.out x
   cases hin : stops.data.toList.contains x <;> rw [hin] at hcx
   ·go_wp2_with fail
    (with_reducible refine (Tryz.asciiSet_contains _ x _ _ hcx).mono ?_); rintro e w2 ⟨rfl, rfl⟩
    go_wp2
    go_roundg g
    case measure => omega
    case rel => exact ⟨i + 1, by omega, by first | rfl | simp, rfl, HN.out.succ Hxl.out hin⟩
   ·go_wp2_with fail
    (with_reducible refine (Tryz.asciiSet_contains _ x _ _ hcx).mono ?_); rintro e w2 ⟨rfl, rfl⟩
    go_wp2
    go_ret
    exact ⟨by rw [Lib.indexAny_hit HN.out Hxl.out hin]; rfl, HB.out⟩
theorem indexAny_any (s : ByteArray) (hs : s.size ≤ 9223372036854775807) (w : World) : Calls Tryz.prog 159 #[.string s, .string stops] w fun e w' => e = .returned (.int .i64 (Lib.indexAny s.data.toList stops.data.toList)) ∧ Below w.heap.size w w' := by
 by_cases h8 : s.size ≤ 8
 ·exact indexAny_short s w h8
 ·exact indexAny_long s (by omega) hs w
end Go.Proofs.YtnjkemakcejceaaGreatDoor

namespace Go.Proofs.YtnjkemakcejceaaGreatDoor
open Go.RowKit
set_option maxHeartbeats 4000000
namespace Adr
def first (k : Nat) (c : UInt8) : Bool := if k = 0 then letter c else wordB c
def idOk (j : Nat) (s : List UInt8) : Prop := ∀ k, k < j → first k (s.getD k 0) = true
theorem wordB_of_letter {c : UInt8} (h : letter c = true) : wordB c = true := by unfold wordB; rw [h]; rfl
theorem ident_fail {s : List UInt8} {j : Nat} (hj : j < s.length) (h : first j (s.getD j 0) = false) : ident s = false := by
 unfold ident
 unfold first at h
 split at h
 ·next e =>
  subst e
  rw [h]; simp
 ·have : s.all wordB = false := by
   rw [List.all_eq_false]
   refine ⟨s[j], List.getElem_mem hj, ?_⟩
   have e : s.getD j 0 = s[j] := by simp [List.getD, hj]
   rw [e] at h; rw [h]; decide
  simp [this]
theorem ident_end {s : List UInt8} (h : idOk s.length s) : ident s = (s != [] && decide (s.length ≤ 64)) := by
 unfold ident
 cases s with
 | nil => rfl
 | cons c t =>
  have h0 : letter ((c :: t).getD 0 0) = true := by
   have := h 0 (by simp)
   unfold first at this
   rwa [if_pos rfl] at this
  have h1 : (c :: t).all wordB = true := by
   rw [List.all_eq_true]
   intro x hx
   obtain ⟨j, hj, rfl⟩ := List.getElem_of_mem hx
   have := h j hj
   have e : (c :: t).getD j 0 = (c :: t)[j] := by rw [List.getD_eq_getElem?_getD, List.getElem?_eq_getElem hj]; rfl
   unfold first at this
   rw [e] at this
   split at this
   ·exact wordB_of_letter this
   ·exact this
  rw [h0, h1]
  simp
set_option maxRecDepth 100000 in
theorem or_letter : ∀ n : Fin 256, letter (UInt8.ofNat n.val) = !((((n.val : Nat) : Int) != 95) && (decide (bits .or .u8 ((n.val : Nat) : Int) 32 < 97) || decide (bits .or .u8 ((n.val : Nat) : Int) 32 > 122))) := by decide +kernel
theorem letter_or (c : UInt8) : letter c = !(((c.toNat : Int) != 95) && (decide (bits .or .u8 (c.toNat : Int) 32 < 97) || decide (bits .or .u8 (c.toNat : Int) 32 > 122))) := by
 have := or_letter ⟨c.toNat, c.toNat_lt⟩
 simpa using this
end Adr
namespace AX
def c_ident : AX.AFn := ⟨50, .seq (.reg false [⟨some 2, .mv (.c (.bool false)), none, []⟩]) (.seq (.seq (.reg false [⟨some 5, .mv (.t 0), none, []⟩, ⟨some 6, .len true (.t 5), none, []⟩, ⟨some 7, .mv (.c (.int .i64 0)), none, []⟩]) (.block 0 (.loop (.seq (.reg false [⟨some 8, .bin .lss (.t 7) (.t 6), none, []⟩]) (.seq (.cond (.t 8) (.skip) (.exit 0)) (.seq (.block 1 (.seq (.reg false [⟨some 9, .mv (.t 7), none, []⟩, ⟨some 3, .mv (.t 9), none, []⟩]) (.seq (.reg false [⟨some 10, .mv (.t 0), none, []⟩, ⟨some 11, .mv (.t 3), none, []⟩, ⟨some 12, .sidx (.t 10) (.t 11), none, []⟩, ⟨some 13, .bin .or (.t 12) (.c (.int .u8 32)), none, []⟩, ⟨some 4, .mv (.t 13), none, []⟩]) (.seq (.reg false [⟨some 14, .mv (.t 0), none, []⟩, ⟨some 15, .mv (.t 3), none, []⟩, ⟨some 16, .sidx (.t 14) (.t 15), none, []⟩, ⟨some 17, .bin .neq (.t 16) (.c (.int .u8 95)), none, []⟩, ⟨some 18, .mv (.t 17), none, []⟩, ⟨some 19, .mv (.t 4), some (18, true), []⟩, ⟨some 20, .bin .lss (.t 19) (.c (.int .u8 97)), some (18, true), []⟩, ⟨some 21, .mv (.t 20), some (18, true), []⟩, ⟨some 22, .mv (.t 4), some (21, false), []⟩, ⟨some 23, .bin .gtr (.t 22) (.c (.int .u8 122)), some (21, false), []⟩, ⟨some 24, .pick (.t 21) (.c (.bool true)) (.t 23), some (18, true), []⟩, ⟨some 25, .pick (.t 18) (.t 24) (.c (.bool false)), none, []⟩, ⟨some 26, .mv (.t 25), none, []⟩, ⟨some 27, .mv (.t 3), some (26, true), []⟩, ⟨some 28, .bin .eql (.t 27) (.c (.int .i64 0)), some (26, true), []⟩, ⟨some 29, .mv (.t 28), some (26, true), []⟩, ⟨some 30, .mv (.t 0), some (29, false), []⟩, ⟨some 31, .mv (.t 3), some (29, false), []⟩, ⟨some 32, .sidx (.t 30) (.t 31), some (29, false), []⟩, ⟨some 33, .bin .lss (.t 32) (.c (.int .u8 48)), some (29, false), []⟩, ⟨some 34, .pick (.t 29) (.c (.bool true)) (.t 33), some (26, true), []⟩, ⟨some 35, .mv (.t 34), some (26, true), []⟩, ⟨some 36, .mv (.t 0), some (35, false), []⟩, ⟨some 37, .mv (.t 3), some (35, false), []⟩, ⟨some 38, .sidx (.t 36) (.t 37), some (35, false), []⟩, ⟨some 39, .bin .gtr (.t 38) (.c (.int .u8 57)), some (35, false), []⟩, ⟨some 40, .pick (.t 35) (.c (.bool true)) (.t 39), some (26, true), []⟩, ⟨some 41, .pick (.t 26) (.t 40) (.c (.bool false)), none, []⟩]) (.cond (.t 41) (.seq (.reg false [⟨some 2, .mv (.c (.bool false)), none, []⟩]) (.ret)) (.skip)))))) (.reg false [⟨some 42, .bin .add (.t 7) (.c (.int .i64 1)), none, []⟩, ⟨some 7, .mv (.t 42), none, []⟩]))))))) (.seq (.reg false [⟨some 43, .mv (.t 0), none, []⟩, ⟨some 44, .bin .neq (.t 43) (.c (.str [])), none, []⟩, ⟨some 45, .mv (.t 44), none, []⟩, ⟨some 46, .mv (.t 0), some (45, true), []⟩, ⟨some 47, .len true (.t 46), some (45, true), []⟩, ⟨some 48, .bin .leq (.t 47) (.c (.int .i64 64)), some (45, true), []⟩, ⟨some 49, .pick (.t 45) (.t 48) (.c (.bool false)), none, []⟩, ⟨some 2, .mv (.t 49), none, []⟩]) (.ret))), [.t 2]⟩
theorem h_ident : AX.compFn Tryz.prog 82 = some c_ident := by kernel_rfl
def c_lcutp : AX.AFn := ⟨15, .seq (.reg false [⟨some 4, .mv (.c (.str [])), none, []⟩, ⟨some 5, .mv (.c (.bool false)), none, []⟩]) (.seq (.seq (.reg false [⟨some 6, .mv (.t 0), none, []⟩, ⟨some 7, .mv (.t 1), none, []⟩, ⟨some 8, .call 89 [.t 6, .t 7], none, []⟩, ⟨some 9, .un .not (.t 8), none, []⟩]) (.cond (.t 9) (.seq (.reg false [⟨some 10, .mv (.t 0), none, []⟩, ⟨some 4, .mv (.t 10), none, []⟩, ⟨some 5, .mv (.c (.bool false)), none, []⟩]) (.ret)) (.skip))) (.seq (.reg false [⟨some 11, .mv (.t 0), none, []⟩, ⟨some 12, .mv (.t 1), none, []⟩, ⟨some 13, .len true (.t 12), none, []⟩, ⟨some 14, .ssl (.t 11) (some (.t 13)) none, none, []⟩, ⟨some 4, .mv (.t 14), none, []⟩, ⟨some 5, .mv (.c (.bool true)), none, []⟩]) (.ret))), [.t 4, .t 5]⟩
theorem h_lcutp : AX.compFn Tryz.prog 186 = some c_lcutp := by kernel_rfl
def c_cutp : AX.AFn := ⟨11, .seq (.reg false [⟨some 4, .mv (.c (.str [])), none, []⟩, ⟨some 5, .mv (.c (.bool false)), none, []⟩]) (.seq (.reg false [⟨some 6, .mv (.t 0), none, []⟩, ⟨some 7, .mv (.t 1), none, []⟩, ⟨some 8, .call 186 [.t 6, .t 7], none, []⟩, ⟨some 9, .extract (.t 8) 0, none, []⟩, ⟨some 10, .extract (.t 8) 1, none, []⟩, ⟨some 4, .mv (.t 9), none, []⟩, ⟨some 5, .mv (.t 10), none, []⟩]) (.ret)), [.t 4, .t 5]⟩
theorem h_cutp : AX.compFn Tryz.prog 158 = some c_cutp := by kernel_rfl
def c_ahas : AX.AFn := ⟨21, .seq (.reg false [⟨some 4, .mv (.c (.bool false)), none, []⟩]) (.seq (.reg false [⟨some 8, .mv (.t 0), none, []⟩, ⟨some 9, .nilck (.t 8), none, []⟩, ⟨some 10, .faddr 0 (.t 9), none, []⟩, ⟨some 11, .load false 1 (.t 10), none, []⟩, ⟨some 12, .mv (.t 1), none, []⟩, ⟨some 13, .call 158 [.t 11, .t 12], none, []⟩, ⟨some 7, .mv (.t 13), none, []⟩, ⟨some 14, .extract (.t 7) 0, none, []⟩, ⟨some 15, .extract (.t 7) 1, none, []⟩, ⟨some 5, .mv (.t 14), none, []⟩, ⟨some 6, .mv (.t 15), none, []⟩]) (.seq (.reg false [⟨some 16, .mv (.t 0), none, []⟩, ⟨some 17, .mv (.t 5), none, []⟩, ⟨some 18, .nilck (.t 16), none, []⟩, ⟨some 19, .faddr 0 (.t 18), none, []⟩, ⟨none, .store 1 (.t 19) (.t 17), none, []⟩]) (.seq (.reg false [⟨some 20, .mv (.t 6), none, []⟩, ⟨some 4, .mv (.t 20), none, []⟩]) (.ret)))), [.t 4]⟩
theorem h_ahas : AX.compFn Tryz.prog 121 = some c_ahas := by kernel_rfl
def c_askip : AX.AFn := ⟨30, .seq (.reg false [⟨some 7, .mv (.t 0), none, []⟩, ⟨some 8, .nilck (.t 7), none, []⟩, ⟨some 9, .faddr 0 (.t 8), none, []⟩, ⟨some 10, .load false 1 (.t 9), none, []⟩, ⟨some 11, .mv (.t 1), none, []⟩, ⟨some 12, .call 158 [.t 10, .t 11], none, []⟩, ⟨some 6, .mv (.t 12), none, []⟩, ⟨some 13, .extract (.t 6) 0, none, []⟩, ⟨some 14, .extract (.t 6) 1, none, []⟩, ⟨some 4, .mv (.t 13), none, []⟩, ⟨some 5, .mv (.t 14), none, []⟩]) (.seq (.reg false [⟨some 15, .mv (.t 0), none, []⟩, ⟨some 16, .mv (.t 4), none, []⟩, ⟨some 17, .nilck (.t 15), none, []⟩, ⟨some 18, .faddr 0 (.t 17), none, []⟩, ⟨none, .store 1 (.t 18) (.t 16), none, []⟩]) (.reg false [⟨some 19, .mv (.t 0), none, []⟩, ⟨some 20, .mv (.t 0), none, []⟩, ⟨some 21, .nilck (.t 20), none, []⟩, ⟨some 22, .faddr 1 (.t 21), none, []⟩, ⟨some 23, .load false 1 (.t 22), none, []⟩, ⟨some 24, .mv (.t 23), none, []⟩, ⟨some 25, .mv (.t 5), some (24, false), []⟩, ⟨some 26, .un .not (.t 25), some (24, false), []⟩, ⟨some 27, .pick (.t 24) (.c (.bool true)) (.t 26), none, []⟩, ⟨some 28, .nilck (.t 19), none, []⟩, ⟨some 29, .faddr 1 (.t 28), none, []⟩, ⟨none, .store 1 (.t 29) (.t 27), none, []⟩])), []⟩
theorem h_askip : AX.compFn Tryz.prog 123 = some c_askip := by kernel_rfl
theorem a_ident (s : List UInt8) (hl : s.length ≤ 2000000) (h : Hp) : ACall Tryz.prog GT 82 [.str s] h fun r h' => r = .bool (Adr.ident s) ∧ h' = h := by
 refine pcall ?_ rfl (by simp [A.pure, A.data]) h
 refine acall_of mixedT h_ident (by simp [c_ident]) ?_
 dsimp only [c_ident]
 (refine AX.run0 True.intro ?_)
 refine awp_loop (fun mm ts h => ∃ (j : Nat), mm = s.length - j ∧ j ≤ s.length ∧ h = ⟨[], []⟩ ∧ Adr.idOk j s ∧ ts 0 = .str s ∧ ts 6 = .int .i64 (s.length : Nat) ∧ ts 7 = .int .i64 (j : Nat)) s.length ?_ ?_
 ·exact ⟨0, by omega, by omega, rfl, fun k hk => absurd hk (Nat.not_lt_zero k), by (exact AX.ev0 True.intro), by (exact AX.ev0 True.intro), by (exact AX.inv0 True.intro)⟩
 rintro mm ts h ⟨j, rfl, hjc, rfl, hok, t0, t6, t7⟩
 by_cases hj : j < s.length
 ·have hlt : (j : Int) < (s.length : Int) := by omega
  have hj0 : (0 : Int) ≤ (j : Int) := by omega
  have ei : IntKind.i64.wrap ((j : Int) + 1) = ((j + 1 : Nat) : Int) := by rw [wrap64 (by omega) (by omega)]; omega
  obtain ⟨c, hc⟩ : ∃ c, s.getD j 0 = c := ⟨_, rfl⟩
  have hfl : Adr.letter c = false → j = 0 ∨ Adr.wordB c = false → Adr.ident s = false := fun h1 h2 => Adr.ident_fail hj (by
   rw [hc]; unfold Adr.first
   rcases h2 with h2 | h2
   ·rw [if_pos h2]; exact h1
   ·split
    ·exact h1
    ·exact h2)
  have hgo : Adr.first j c = true → Adr.idOk (j + 1) s := fun h1 k hk => by
   by_cases e : k = j
   ·rw [e, hc]; exact h1
   ·exact hok k (by omega)
  have hlo := Adr.letter_or c
  have hdg := Num.digB_int c
  have hwb : Adr.wordB c = (Adr.letter c || Num.digB c) := rfl
  obtain ⟨x, hx⟩ : ∃ x : Int, (c.toNat : Int) = x := ⟨_, rfl⟩
  rw [hx] at hlo hdg
  obtain ⟨y, hy⟩ : ∃ y : Int, bits .or .u8 x 32 = y := ⟨_, rfl⟩
  rw [hy] at hlo
  have next : Adr.first j c = true → ∃ m', m' < s.length - j ∧ ∃ (j' : Nat), m' = s.length - j' ∧ j' ≤ s.length ∧ Adr.idOk j' s ∧ j' = j + 1 := fun h1 => ⟨s.length - (j + 1), by omega, j + 1, rfl, by omega, hgo h1, rfl⟩
  by_cases h95 : x = 95
  ·have e1 : (x != 95) = false := by simp [h95]
   have hL : Adr.letter c = true := by rw [hlo, e1]; rfl
   (refine AX.run0 (And.intro t0 (And.intro t6 (And.intro t7 (And.intro hlt (And.intro hj0 (And.intro hc (And.intro hx (And.intro hy (And.intro e1 ei))))))))) ?_)
   exact ⟨s.length - (j + 1), by omega, j + 1, rfl, by omega, rfl, hgo (by unfold Adr.first; split; exact hL; rw [hwb, hL]; rfl), by (exact AX.ev0 t0), by (exact AX.ev0 t6), by (exact AX.ev0 ei)⟩
  have e1 : (x != 95) = true := by simp [h95]
  by_cases h97 : y < 97 ∨ y > 122
  rotate_left
  ·have e2 : ¬ y < 97 := by omega
   have e3 : ¬ y > 122 := by omega
   have hL : Adr.letter c = true := by rw [hlo, e1, decide_eq_false e2, decide_eq_false e3]; rfl
   (refine AX.run0 (And.intro t0 (And.intro t6 (And.intro t7 (And.intro hlt (And.intro hj0 (And.intro hc (And.intro hx (And.intro hy (And.intro e1 (And.intro e2 (And.intro e3 ei))))))))))) ?_)
   exact ⟨s.length - (j + 1), by omega, j + 1, rfl, by omega, rfl, hgo (by unfold Adr.first; split; exact hL; rw [hwb, hL]; rfl), by (exact AX.ev0 t0), by (exact AX.ev0 t6), by (exact AX.ev0 ei)⟩
  have hL : Adr.letter c = false := by
   rw [hlo, e1]
   rcases h97 with h97 | h97
   ·rw [decide_eq_true h97]; rfl
   ·rw [decide_eq_true h97, Bool.or_true]; rfl
  have fail : (j = 0 ∨ Adr.wordB c = false) → Adr.ident s = false := hfl hL
  have e23 : y < 97 ∨ (¬ y < 97 ∧ y > 122) := by omega
  by_cases hz : j = 0
  ·have e4 : ((j : Int) == 0) = true := by simp [hz]
   have hF := fail (.inl hz)
   rcases e23 with e2 | ⟨e2, e3⟩
   ·(refine AX.run0 (And.intro t0 (And.intro t6 (And.intro t7 (And.intro hlt (And.intro hj0 (And.intro hc (And.intro hx (And.intro hy (And.intro e1 (And.intro e2 e4)))))))))) ?_)
    exact ⟨_, le_refl _, by rw [hF]; rfl⟩
   ·(refine AX.run0 (And.intro t0 (And.intro t6 (And.intro t7 (And.intro hlt (And.intro hj0 (And.intro hc (And.intro hx (And.intro hy (And.intro e1 (And.intro e2 (And.intro e3 e4))))))))))) ?_)
    exact ⟨_, le_refl _, by rw [hF]; rfl⟩
  have e4 : ((j : Int) == 0) = false := by simp; omega
  by_cases hd : 48 ≤ x ∧ x ≤ 57
  ·have e5 : ¬ x < 48 := by omega
   have e6 : ¬ x > 57 := by omega
   have hW : Adr.wordB c = true := by rw [hwb, hdg, decide_eq_true hd.1, decide_eq_true hd.2, hL]; rfl
   have hfst : Adr.first j c = true := by unfold Adr.first; rw [if_neg hz]; exact hW
   rcases e23 with e2 | ⟨e2, e3⟩
   ·(refine AX.run0 (And.intro t0 (And.intro t6 (And.intro t7 (And.intro hlt (And.intro hj0 (And.intro hc (And.intro hx (And.intro hy (And.intro e1 (And.intro e2 (And.intro e4 (And.intro e5 (And.intro e6 ei))))))))))))) ?_)
    exact ⟨s.length - (j + 1), by omega, j + 1, rfl, by omega, rfl, hgo hfst, by (exact AX.ev0 t0), by (exact AX.ev0 t6), by (exact AX.ev0 ei)⟩
   ·(refine AX.run0 (And.intro t0 (And.intro t6 (And.intro t7 (And.intro hlt (And.intro hj0 (And.intro hc (And.intro hx (And.intro hy (And.intro e1 (And.intro e2 (And.intro e3 (And.intro e4 (And.intro e5 (And.intro e6 ei)))))))))))))) ?_)
    exact ⟨s.length - (j + 1), by omega, j + 1, rfl, by omega, rfl, hgo hfst, by (exact AX.ev0 t0), by (exact AX.ev0 t6), by (exact AX.ev0 ei)⟩
  ·have hD : Num.digB c = false := by
    rw [hdg]
    by_cases a : 48 ≤ x
    ·rw [decide_eq_true a, decide_eq_false (by omega)]; rfl
    ·rw [decide_eq_false a]; rfl
   have hF := fail (.inr (by rw [hwb, hL, hD]; rfl))
   have e56 : x < 48 ∨ (¬ x < 48 ∧ x > 57) := by omega
   rcases e23 with e2 | ⟨e2, e3⟩
   ·rcases e56 with e5 | ⟨e5, e6⟩
    ·(refine AX.run0 (And.intro t0 (And.intro t6 (And.intro t7 (And.intro hlt (And.intro hj0 (And.intro hc (And.intro hx (And.intro hy (And.intro e1 (And.intro e2 (And.intro e4 e5))))))))))) ?_)
     exact ⟨_, le_refl _, by rw [hF]; rfl⟩
    ·(refine AX.run0 (And.intro t0 (And.intro t6 (And.intro t7 (And.intro hlt (And.intro hj0 (And.intro hc (And.intro hx (And.intro hy (And.intro e1 (And.intro e2 (And.intro e4 (And.intro e5 e6)))))))))))) ?_)
     exact ⟨_, le_refl _, by rw [hF]; rfl⟩
   ·rcases e56 with e5 | ⟨e5, e6⟩
    ·(refine AX.run0 (And.intro t0 (And.intro t6 (And.intro t7 (And.intro hlt (And.intro hj0 (And.intro hc (And.intro hx (And.intro hy (And.intro e1 (And.intro e2 (And.intro e3 (And.intro e4 e5)))))))))))) ?_)
     exact ⟨_, le_refl _, by rw [hF]; rfl⟩
    ·(refine AX.run0 (And.intro t0 (And.intro t6 (And.intro t7 (And.intro hlt (And.intro hj0 (And.intro hc (And.intro hx (And.intro hy (And.intro e1 (And.intro e2 (And.intro e3 (And.intro e4 (And.intro e5 e6))))))))))))) ?_)
     exact ⟨_, le_refl _, by rw [hF]; rfl⟩
 ·have hlt : ¬ ((j : Int) < (s.length : Int)) := by omega
  have hje : j = s.length := by omega
  rw [hje] at hok
  have hE := Adr.ident_end hok
  by_cases hn : s = []
  ·have e1 : (s != []) = false := by simp [hn]
   rw [e1] at hE
   (refine AX.run0 (And.intro t0 (And.intro t6 (And.intro t7 (And.intro hlt e1)))) ?_)
   exact ⟨_, le_refl _, by rw [hE]; rfl⟩
  ·have e1 : (s != []) = true := by simp [hn]
   rw [e1] at hE
   have e2 : decide ((s.length : Int) ≤ 64) = decide (s.length ≤ 64) := decide_eq_decide.2 (by omega)
   (refine AX.run0 (And.intro t0 (And.intro t6 (And.intro t7 (And.intro hlt e1)))) ?_)
   exact ⟨_, le_refl _, by rw [hE]; first | rfl | (rw [tupA_1, e2]; rfl) | rw [← e2]; rfl⟩
theorem a_lcutp (s p : List UInt8) (h : Hp) : ACall Tryz.prog GT 186 [.str s, .str p] h fun r h' => r = .tup [.str (if Adr.begins s p then s.drop p.length else s), .bool (Adr.begins s p)] ∧ h' = h := by
 refine pcall ?_ rfl (by simp [A.pure, A.data]) h
 refine acall_of mixedT h_lcutp (by simp [c_lcutp]) ?_
 dsimp only [c_lcutp]
 have hp : (decide (p.length ≤ s.length) && s.take p.length == p) = Adr.begins s p := by
  unfold Adr.begins
  rw [Bool.eq_iff_iff, List.isPrefixOf_iff_prefix, List.prefix_iff_eq_take, Bool.and_eq_true, decide_eq_true_eq, beq_iff_eq]
  constructor
  ·rintro ⟨h1, h2⟩; exact h2.symm
  ·intro h2
   exact ⟨by have := congrArg List.length h2; rw [List.length_take] at this; omega, h2.symm⟩
 have hc := fun h => a_liteHasPrefix s p h
 rw [hp] at hc
 (refine AX.run0 True.intro ?_)
 refine use (hc _) ?_
 cases hB : Adr.begins s p
 ·(refine AX.run0 True.intro ?_)
  exact ⟨_, le_refl _, rfl⟩
 ·have hle : (p.length : Int) ≤ (s.length : Int) := by have := Adr.begins_len hB; omega
  have h0 : (0 : Int) ≤ (p.length : Int) := by omega
  (refine AX.run0 (And.intro hle h0) ?_)
  refine ⟨_, le_refl _, ?_⟩
  rw [if_pos rfl]
  first | rfl | (rw [tupA_2]; simp)
theorem a_cutp (s p : List UInt8) (h : Hp) : ACall Tryz.prog GT 158 [.str s, .str p] h fun r h' => r = .tup [.str (if Adr.begins s p then s.drop p.length else s), .bool (Adr.begins s p)] ∧ h' = h := by
 refine pcall ?_ rfl (by simp [A.pure, A.data]) h
 refine acall_of mixedT h_cutp (by simp [c_cutp]) ?_
 dsimp only [c_cutp]
 (refine AX.run0 True.intro ?_)
 refine use (a_lcutp s p _) ?_
 (refine AX.run0 True.intro ?_)
 exact ⟨_, le_refl _, rfl⟩
def adB (r : Adr.Rd) : Blk := .cells 173 [.str r.rest, .bool r.bad]
theorem adB_loc (r : Adr.Rd) : (adB r).loc 0 := rfl
theorem w_has (p : List UInt8) (r : Adr.Rd) {h : Hp} {i : Nat} (hb : h.b[i]? = some (adB r)) :
  ACall Tryz.prog GT 121 [.ptr i 0, .str p] h fun v h' => v = .bool (Adr.hasP p r).1 ∧ h' = ⟨h.b.set i (adB (Adr.hasP p r).2), h.t⟩ := by
 have key : ACall Tryz.prog GT 121 [.ptr 0 0, .str p] ⟨[adB r], []⟩ fun v h' => ∃ b', h'.b[0]? = some b' ∧ v = .bool (Adr.hasP p r).1 ∧ b' = adB (Adr.hasP p r).2 := by
  refine acall_of mixedT h_ahas (by simp [c_ahas]) ?_
  dsimp only [c_ahas]
  unfold adB
  (refine AX.run0 True.intro ?_)
  refine use (a_cutp r.rest p _) ?_
  unfold Adr.hasP
  cases hB : Adr.begins r.rest p
  ·(refine AX.run0 True.intro ?_)
   exact ⟨_, le_refl _, _, rfl, rfl, rfl⟩
  ·(refine AX.run0 True.intro ?_)
   exact ⟨_, le_refl _, _, rfl, rfl, rfl⟩
 refine (ACall.lift1 key rfl (adB_loc r) ?_ hb).mono ?_
 ·rintro v b' ⟨rfl, rfl⟩; exact ⟨rfl, adB_loc _⟩
 ·rintro v h' ⟨b', ⟨rfl, rfl⟩, rfl⟩; exact ⟨rfl, rfl⟩
theorem w_skip (p : List UInt8) (r : Adr.Rd) {h : Hp} {i : Nat} (hb : h.b[i]? = some (adB r)) :
  ACall Tryz.prog GT 123 [.ptr i 0, .str p] h fun v h' => v = .tup [] ∧ h' = ⟨h.b.set i (adB (Adr.skipP p r)), h.t⟩ := by
 have key : ACall Tryz.prog GT 123 [.ptr 0 0, .str p] ⟨[adB r], []⟩ fun v h' => ∃ b', h'.b[0]? = some b' ∧ v = .tup [] ∧ b' = adB (Adr.skipP p r) := by
  obtain ⟨rest, bad⟩ := r
  refine acall_of mixedT h_askip (by simp [c_askip]) ?_
  dsimp only [c_askip]
  unfold adB
  (refine AX.run0 True.intro ?_)
  refine use (a_cutp rest p _) ?_
  unfold Adr.skipP
  dsimp only
  cases hB : Adr.begins rest p
  ·cases bad
   ·(refine AX.run0 True.intro ?_)
    exact ⟨_, le_refl _, _, rfl, rfl, rfl⟩
   ·(refine AX.run0 True.intro ?_)
    exact ⟨_, le_refl _, _, rfl, rfl, rfl⟩
  ·cases bad
   ·(refine AX.run0 True.intro ?_)
    exact ⟨_, le_refl _, _, rfl, rfl, rfl⟩
   ·(refine AX.run0 True.intro ?_)
    exact ⟨_, le_refl _, _, rfl, rfl, rfl⟩
 refine (ACall.lift1 key rfl (adB_loc r) ?_ hb).mono ?_
 ·rintro v b' ⟨rfl, rfl⟩; exact ⟨rfl, adB_loc _⟩
 ·rintro v h' ⟨b', ⟨rfl, rfl⟩, rfl⟩; exact ⟨rfl, rfl⟩
end AX
end Go.Proofs.YtnjkemakcejceaaGreatDoor

namespace Go.Proofs.YtnjkemakcejceaaGreatDoor
open Go.RowKit
open Go.Op (bytesLess)
set_option maxHeartbeats 4000000
namespace Adr
def Step.cells (s : Step) : List AX.A := [.str s.name, .int .i64 s.key.kind, .int .i64 s.key.num, .str s.key.str]
def Ad.cells (a : Ad) : List AX.A := [.sl 4 .no (a.mods.map Step.cells), .bool a.data, .str a.type, .str a.name, .int .i64 a.key.kind, .int .i64 a.key.num, .str a.key.str]
end Adr
namespace AX
def cmpZ (a b : List UInt8) : Int := if a == b then 0 else if bytesLess a b then -1 else 1
structure Leafs : Prop where
 parse : ∀ (s : List UInt8), s.length ≤ 2000000 → ∀ h, ACall Tryz.prog GT 81 [.str s] h fun r h' => r = .tup [.agg (Adr.parse s).1.cells, .int .i64 (Adr.parse s).2] ∧ h' = h
 static : ∀ (s : List UInt8), s.length ≤ 2000000 → ∀ h, ACall Tryz.prog GT 119 [.str s] h fun r h' => r = .tup [.str (Adr.static s).1, .int .i64 (Adr.static s).2] ∧ h' = h
 ident : ∀ (s : List UInt8), s.length ≤ 2000000 → ∀ h, ACall Tryz.prog GT 82 [.str s] h fun r h' => r = .bool (Adr.ident s) ∧ h' = h
 num : ∀ (s : List UInt8), s.length ≤ 2000000 → ∀ h, ACall Tryz.prog GT 114 [.str s] h fun r h' => r = .tup [.int .i64 (Num.parse s).1, .int .i64 (Num.parse s).2] ∧ h' = h
 cmp : ∀ (a b : List UInt8) h, ACall Tryz.prog GT 80 [.str a, .str b] h fun r h' => r = .int .i64 (cmpZ a b) ∧ h' = h
 known : ∀ (v : V), v.lens → ∀ h, ACall Tryz.prog GT 77 [v.A] h fun r h' => r = .bool (Sf.known v) ∧ h' = h
 text : ∀ (s : List UInt8), s.length ≤ 2000000 → ∀ h, ACall Tryz.prog GT 39 [.str s] h fun r h' => r = .bool (Sf.text s) ∧ h' = h
def c_smanaged : AX.AFn := ⟨25, .seq (.reg false [⟨some 4, .mv (.c (.bool false)), none, []⟩]) (.seq (.reg false [⟨some 8, .mv (.t 0), none, []⟩, ⟨some 9, .call 81 [.t 8], none, []⟩, ⟨some 7, .mv (.t 9), none, []⟩, ⟨some 10, .extract (.t 7) 0, none, []⟩, ⟨some 11, .extract (.t 7) 1, none, []⟩, ⟨some 5, .alloc 133 [.sl 0 .nil [], .bool false, .str [], .str [], .int .i64 0, .int .i64 0, .str []], none, []⟩, ⟨none, .store 7 (.t 5) (.t 10), none, []⟩, ⟨some 6, .mv (.t 11), none, []⟩]) (.seq (.reg false [⟨some 12, .mv (.t 6), none, []⟩, ⟨some 13, .bin .eql (.t 12) (.c (.int .i64 0)), none, []⟩, ⟨some 14, .mv (.t 13), none, []⟩, ⟨some 15, .faddr 1 (.t 5), some (14, true), []⟩, ⟨some 16, .load false 1 (.t 15), some (14, true), []⟩, ⟨some 17, .un .not (.t 16), some (14, true), []⟩, ⟨some 18, .pick (.t 14) (.t 17) (.c (.bool false)), none, []⟩, ⟨some 19, .mv (.t 18), none, []⟩, ⟨some 20, .faddr 2 (.t 5), some (19, true), []⟩, ⟨some 21, .load false 1 (.t 20), some (19, true), []⟩, ⟨some 22, .mv (.t 1), some (19, true), []⟩, ⟨some 23, .bin .eql (.t 21) (.t 22), some (19, true), []⟩, ⟨some 24, .pick (.t 19) (.t 23) (.c (.bool false)), none, []⟩, ⟨some 4, .mv (.t 24), none, []⟩]) (.ret))), [.t 4]⟩
theorem h_smanaged : AX.compFn Tryz.prog 43 = some c_smanaged := by kernel_rfl
def c_skey : AX.AFn := ⟨16, .seq (.reg false [⟨some 2, .mv (.c (.bool false)), none, []⟩]) (.seq (.reg false [⟨some 6, .mv (.t 0), none, []⟩, ⟨some 7, .call 114 [.t 6], none, []⟩, ⟨some 5, .mv (.t 7), none, []⟩, ⟨some 8, .extract (.t 5) 0, none, []⟩, ⟨some 9, .extract (.t 5) 1, none, []⟩, ⟨some 3, .mv (.t 8), none, []⟩, ⟨some 4, .mv (.t 9), none, []⟩]) (.seq (.reg false [⟨some 10, .mv (.t 4), none, []⟩, ⟨some 11, .bin .eql (.t 10) (.c (.int .i64 0)), none, []⟩, ⟨some 12, .mv (.t 11), none, []⟩, ⟨some 13, .mv (.t 3), some (12, true), []⟩, ⟨some 14, .bin .geq (.t 13) (.c (.int .i64 1)), some (12, true), []⟩, ⟨some 15, .pick (.t 12) (.t 14) (.c (.bool false)), none, []⟩, ⟨some 2, .mv (.t 15), none, []⟩]) (.ret))), [.t 2]⟩
theorem h_skey : AX.compFn Tryz.prog 75 = some c_skey := by kernel_rfl
def c_splaceOf : AX.AFn := ⟨8, .seq (.reg false [⟨some 1, .box 42 (.t 0), none, []⟩, ⟨some 2, .alloc 91 [.str [], .str []], none, []⟩]) (.seq (.reg false [⟨some 3, .faddr 0 (.t 1), none, []⟩, ⟨some 4, .load false 1 (.t 3), none, []⟩, ⟨some 5, .faddr 1 (.t 1), none, []⟩, ⟨some 6, .load false 1 (.t 5), none, []⟩, ⟨some 7, .build [.str [], .str []] [(0, 1, .t 4), (1, 1, .t 6)], none, []⟩, ⟨none, .store 2 (.t 2) (.t 7), none, []⟩]) (.ret)), [.c 2 true 2]⟩
theorem h_splaceOf : AX.compFn Tryz.prog 41 = some c_splaceOf := by kernel_rfl
def c_sstatics : AX.AFn := ⟨40, .seq (.reg false [⟨some 2, .mv (.c (.bool false)), none, []⟩]) (.seq (.seq (.reg false [⟨some 7, .mv (.t 0), none, []⟩, ⟨some 8, .len false (.t 7), none, []⟩, ⟨some 9, .mv (.c (.int .i64 0)), none, []⟩]) (.block 0 (.loop (.seq (.reg false [⟨some 10, .bin .lss (.t 9) (.t 8), none, []⟩]) (.seq (.cond (.t 10) (.skip) (.exit 0)) (.seq (.block 1 (.seq (.reg false [⟨some 11, .mv (.t 9), none, []⟩, ⟨some 12, .iaddr 1 (.t 7) (.t 9), none, []⟩, ⟨some 13, .load false 1 (.t 12), none, []⟩, ⟨some 3, .mv (.t 11), none, []⟩, ⟨some 4, .mv (.t 13), none, []⟩]) (.seq (.reg false [⟨some 15, .mv (.t 4), none, []⟩, ⟨some 16, .call 119 [.t 15], none, []⟩, ⟨some 14, .mv (.t 16), none, []⟩, ⟨some 17, .extract (.t 14) 0, none, []⟩, ⟨some 18, .extract (.t 14) 1, none, []⟩, ⟨some 5, .mv (.t 17), none, []⟩, ⟨some 6, .mv (.t 18), none, []⟩]) (.seq (.reg false [⟨some 19, .mv (.t 6), none, []⟩, ⟨some 20, .bin .neq (.t 19) (.c (.int .i64 0)), none, []⟩, ⟨some 21, .mv (.t 20), none, []⟩, ⟨some 22, .mv (.t 5), some (21, false), []⟩, ⟨some 23, .mv (.t 4), some (21, false), []⟩, ⟨some 24, .bin .neq (.t 22) (.t 23), some (21, false), []⟩, ⟨some 25, .pick (.t 21) (.c (.bool true)) (.t 24), none, []⟩, ⟨some 26, .mv (.t 25), none, []⟩, ⟨some 27, .mv (.t 3), some (26, false), []⟩, ⟨some 28, .bin .gtr (.t 27) (.c (.int .i64 0)), some (26, false), []⟩, ⟨some 29, .mv (.t 28), some (26, false), []⟩, ⟨some 30, .mv (.t 4), some (29, true), []⟩, ⟨some 31, .mv (.t 0), some (29, true), []⟩, ⟨some 32, .mv (.t 3), some (29, true), []⟩, ⟨some 33, .bin .sub (.t 32) (.c (.int .i64 1)), some (29, true), []⟩, ⟨some 34, .iaddr 1 (.t 31) (.t 33), some (29, true), []⟩, ⟨some 35, .load false 1 (.t 34), some (29, true), []⟩, ⟨some 36, .bin .leq (.t 30) (.t 35), some (29, true), []⟩, ⟨some 37, .pick (.t 29) (.t 36) (.c (.bool false)), some (26, false), []⟩, ⟨some 38, .pick (.t 26) (.c (.bool true)) (.t 37), none, []⟩]) (.cond (.t 38) (.seq (.reg false [⟨some 2, .mv (.c (.bool false)), none, []⟩]) (.ret)) (.skip)))))) (.reg false [⟨some 39, .bin .add (.t 9) (.c (.int .i64 1)), none, []⟩, ⟨some 9, .mv (.t 39), none, []⟩]))))))) (.seq (.reg false [⟨some 2, .mv (.c (.bool true)), none, []⟩]) (.ret))), [.t 2]⟩
theorem h_sstatics : AX.compFn Tryz.prog 78 = some c_sstatics := by kernel_rfl
def c_soutput : AX.AFn := ⟨18, .seq (.reg false [⟨some 1, .box 98 (.t 0), none, []⟩, ⟨some 2, .mv (.c (.int .i64 0)), none, []⟩]) (.seq (.seq (.reg false [⟨some 4, .faddr 0 (.t 1), none, []⟩, ⟨some 5, .load false 1 (.t 4), none, []⟩, ⟨some 6, .call 82 [.t 5], none, []⟩, ⟨some 7, .un .not (.t 6), none, []⟩]) (.cond (.t 7) (.seq (.reg false [⟨some 2, .mv (.c (.int .i64 7)), none, []⟩]) (.ret)) (.skip))) (.seq (.seq (.reg false [⟨some 8, .faddr 1 (.t 1), none, []⟩, ⟨some 9, .load true 5 (.t 8), none, []⟩, ⟨some 10, .call 76 [.t 9], none, []⟩, ⟨some 3, .mv (.t 10), none, []⟩]) (.seq (.reg false [⟨some 11, .mv (.t 3), none, []⟩, ⟨some 12, .bin .neq (.t 11) (.c (.int .i64 0)), none, []⟩]) (.cond (.t 12) (.seq (.reg false [⟨some 13, .mv (.t 3), none, []⟩, ⟨some 2, .mv (.t 13), none, []⟩]) (.ret)) (.skip)))) (.seq (.seq (.reg false [⟨some 14, .faddr 1 (.t 1), none, []⟩, ⟨some 15, .load true 5 (.t 14), none, []⟩, ⟨some 16, .call 77 [.t 15], none, []⟩, ⟨some 17, .un .not (.t 16), none, []⟩]) (.cond (.t 17) (.seq (.reg false [⟨some 2, .mv (.c (.int .i64 11)), none, []⟩]) (.ret)) (.skip))) (.seq (.reg false [⟨some 2, .mv (.c (.int .i64 0)), none, []⟩]) (.ret))))), [.t 2]⟩
theorem h_soutput : AX.compFn Tryz.prog 44 = some c_soutput := by kernel_rfl
def c_sinstance : AX.AFn := ⟨53, .seq (.reg false [⟨some 1, .box 42 (.t 0), none, []⟩, ⟨some 2, .mv (.c (.int .i64 0)), none, []⟩]) (.seq (.seq (.reg false [⟨some 4, .faddr 0 (.t 1), none, []⟩, ⟨some 5, .load false 1 (.t 4), none, []⟩, ⟨some 6, .faddr 3 (.t 1), none, []⟩, ⟨some 7, .load false 1 (.t 6), none, []⟩, ⟨some 8, .call 43 [.t 5, .t 7], none, []⟩, ⟨some 9, .un .not (.t 8), none, []⟩, ⟨some 10, .mv (.t 9), none, []⟩, ⟨some 11, .faddr 1 (.t 1), some (10, false), []⟩, ⟨some 12, .load false 1 (.t 11), some (10, false), []⟩, ⟨some 13, .bin .neq (.t 12) (.c (.str [])), some (10, false), []⟩, ⟨some 14, .mv (.t 13), some (10, false), []⟩, ⟨some 15, .faddr 1 (.t 1), some (14, true), []⟩, ⟨some 16, .load false 1 (.t 15), some (14, true), []⟩, ⟨some 17, .call 75 [.t 16], some (14, true), []⟩, ⟨some 18, .un .not (.t 17), some (14, true), []⟩, ⟨some 19, .pick (.t 14) (.t 18) (.c (.bool false)), some (10, false), []⟩, ⟨some 20, .pick (.t 10) (.c (.bool true)) (.t 19), none, []⟩, ⟨some 21, .mv (.t 20), none, []⟩, ⟨some 22, .faddr 2 (.t 1), some (21, false), []⟩, ⟨some 23, .load false 1 (.t 22), some (21, false), []⟩, ⟨some 24, .call 39 [.t 23], some (21, false), []⟩, ⟨some 25, .un .not (.t 24), some (21, false), []⟩, ⟨some 26, .pick (.t 21) (.c (.bool true)) (.t 25), none, []⟩]) (.cond (.t 26) (.seq (.reg false [⟨some 2, .mv (.c (.int .i64 1)), none, []⟩]) (.ret)) (.skip))) (.seq (.seq (.reg false [⟨some 27, .faddr 4 (.t 1), none, []⟩, ⟨some 28, .load true 5 (.t 27), none, []⟩, ⟨some 29, .call 76 [.t 28], none, []⟩, ⟨some 3, .mv (.t 29), none, []⟩]) (.seq (.reg false [⟨some 30, .mv (.t 3), none, []⟩, ⟨some 31, .bin .neq (.t 30) (.c (.int .i64 0)), none, []⟩]) (.cond (.t 31) (.seq (.reg false [⟨some 32, .mv (.t 3), none, []⟩, ⟨some 2, .mv (.t 32), none, []⟩]) (.ret)) (.skip)))) (.seq (.seq (.reg false [⟨some 33, .faddr 4 (.t 1), none, []⟩, ⟨some 34, .faddr 0 (.t 33), none, []⟩, ⟨some 35, .load false 1 (.t 34), none, []⟩, ⟨some 36, .bin .neq (.t 35) (.c (.int .i64 5)), none, []⟩]) (.cond (.t 36) (.seq (.reg false [⟨some 2, .mv (.c (.int .i64 6)), none, []⟩]) (.ret)) (.skip))) (.seq (.seq (.reg false [⟨some 37, .faddr 4 (.t 1), none, []⟩, ⟨some 38, .load true 5 (.t 37), none, []⟩, ⟨some 39, .call 77 [.t 38], none, []⟩, ⟨some 40, .un .not (.t 39), none, []⟩]) (.cond (.t 40) (.seq (.reg false [⟨some 2, .mv (.c (.int .i64 11)), none, []⟩]) (.ret)) (.skip))) (.seq (.seq (.reg false [⟨some 41, .faddr 9 (.t 1), none, []⟩, ⟨some 42, .load false 1 (.t 41), none, []⟩, ⟨some 43, .bin .lss (.t 42) (.c (.int .i64 1)), none, []⟩, ⟨some 44, .mv (.t 43), none, []⟩, ⟨some 45, .faddr 9 (.t 1), some (44, false), []⟩, ⟨some 46, .load false 1 (.t 45), some (44, false), []⟩, ⟨some 47, .bin .gtr (.t 46) (.c (.int .i64 9007199254740992)), some (44, false), []⟩, ⟨some 48, .pick (.t 44) (.c (.bool true)) (.t 47), none, []⟩]) (.cond (.t 48) (.seq (.reg false [⟨some 2, .mv (.c (.int .i64 5)), none, []⟩]) (.ret)) (.skip))) (.seq (.seq (.reg false [⟨some 49, .faddr 12 (.t 1), none, []⟩, ⟨some 50, .load false 1 (.t 49), none, []⟩, ⟨some 51, .call 78 [.t 50], none, []⟩, ⟨some 52, .un .not (.t 51), none, []⟩]) (.cond (.t 52) (.seq (.reg false [⟨some 2, .mv (.c (.int .i64 1)), none, []⟩]) (.ret)) (.skip))) (.seq (.reg false [⟨some 2, .mv (.c (.int .i64 0)), none, []⟩]) (.ret)))))))), [.t 2]⟩
theorem h_sinstance : AX.compFn Tryz.prog 40 = some c_sinstance := by kernel_rfl
theorem a_managed (L : Leafs) (s t : List UInt8) (hs : s.length ≤ 2000000) (h : Hp) : ACall Tryz.prog GT 43 [.str s, .str t] h fun r h' => r = .bool (Sf.managed s t) ∧ h' = h := by
 refine pcall ?_ rfl (by simp [A.pure, A.data]) h
 refine acall_of mixedT h_smanaged (by simp [c_smanaged]) ?_
 dsimp only [c_smanaged]
 have hp := fun h => L.parse s hs h
 unfold Sf.managed
 obtain ⟨⟨⟨mods, data, ty, nm, ⟨kk, kn, ks⟩⟩, e⟩, he⟩ : ∃ x, Adr.parse s = x := ⟨_, rfl⟩
 rw [he] at hp ⊢
 simp only [Adr.Ad.cells] at hp
 (refine AX.run0 True.intro ?_)
 refine use (hp _) ?_
 dsimp only
 rcases bool_or (e == 0) with e0 | e0
 ·rw [e0]
  (refine AX.run0 e0 ?_)
  first
  | exact ⟨_, le_refl _, rfl⟩
  | (cases data
     · (refine AX.run0 True.intro ?_)
       exact ⟨_, le_refl _, rfl⟩
     · (refine AX.run0 True.intro ?_)
       exact ⟨_, le_refl _, rfl⟩)
 ·rw [e0]
  (refine AX.run0 e0 ?_)
  first
  | exact ⟨_, le_refl _, rfl⟩
  | (cases data
     · (refine AX.run0 True.intro ?_)
       exact ⟨_, le_refl _, rfl⟩
     · (refine AX.run0 True.intro ?_)
       exact ⟨_, le_refl _, rfl⟩)
theorem a_key (L : Leafs) (s : List UInt8) (hs : s.length ≤ 2000000) (h : Hp) : ACall Tryz.prog GT 75 [.str s] h fun r h' => r = .bool ((Num.parse s).2 == 0 && decide (1 ≤ (Num.parse s).1)) ∧ h' = h := by
 refine pcall ?_ rfl (by simp [A.pure, A.data]) h
 refine acall_of mixedT h_skey (by simp [c_skey]) ?_
 dsimp only [c_skey]
 have hp := fun h => L.num s hs h
 obtain ⟨⟨n, e⟩, he⟩ : ∃ x, Num.parse s = x := ⟨_, rfl⟩
 rw [he] at hp ⊢
 dsimp only at hp ⊢
 (refine AX.run0 True.intro ?_)
 refine use (hp _) ?_
 rcases bool_or (e == 0) with e0 | e0
 ·rw [e0]
  (refine AX.run0 e0 ?_)
  exact ⟨_, le_refl _, rfl⟩
 ·rw [e0]
  (refine AX.run0 e0 ?_)
  exact ⟨_, le_refl _, rfl⟩
theorem a_placeOf (x : Sf.Inst) (h : Hp) : ACall Tryz.prog GT 41 [.agg x.cells] h fun r h' => r = .agg [.str x.addr, .str x.dep] ∧ h' = h := by
 obtain ⟨a, d, id, ty, ⟨k, n, w, vi, vy⟩, v, tn, fi, ds⟩ := x
 refine pcall ?_ rfl (by simp [A.pure, A.data, Sf.Inst.cells]) h
 refine acall_of mixedT h_splaceOf (by simp [c_splaceOf]) ?_
 dsimp only [c_splaceOf, Sf.Inst.cells]
 (refine AX.run0 True.intro ?_)
 exact ⟨_, le_refl _, rfl⟩
theorem a_output (L : Leafs) (o : Sf.Outp) (hs : o.name.length ≤ 2000000) (hl : o.value.lens) (h : Hp) : ACall Tryz.prog GT 44 [.agg o.cells] h fun r h' => r = .int .i64 (Sf.outZ o) ∧ h' = h := by
 have hi := fun h => L.ident o.name hs h
 have hk := fun h => L.known o.value hl h
 have hc := fun h => a_vCheck o.value hl h
 obtain ⟨Z, hZ⟩ : ∃ Z, Sf.outZ o = Z := ⟨_, rfl⟩
 rw [hZ]
 unfold Sf.outZ at hZ
 obtain ⟨m, ⟨k, n, w, vi, vy⟩, b⟩ := o
 dsimp only at hi hk hc hZ
 have hVA : (V.mk k n w vi vy).A = .agg [.int .i64 k, .int .i64 n, .str w, .sl 5 .no (V.cellss vi), .sl 1 .no (strsA vy)] := by simp only [V.A, V.cells]
 rw [hVA] at hk hc
 refine pcall ?_ rfl (by simp [A.pure, A.data, Sf.Outp.cells]) h
 refine acall_of mixedT h_soutput (by simp [c_soutput]) ?_
 dsimp only [c_soutput, Sf.Outp.cells]
 (refine AX.run0 True.intro ?_)
 refine use (hi _) ?_
 cases hI : Adr.ident m
 ·rw [hI, if_pos (by decide)] at hZ
  (refine AX.run0 True.intro ?_)
  exact ⟨_, le_refl _, by rw [← hZ]; rfl⟩
 rw [hI, if_neg (by decide)] at hZ
 (refine AX.run0 True.intro ?_)
 refine use (hc _) ?_
 by_cases hz : Val.checkZ (.mk k n w vi vy) = 0
 rotate_left
 ·have e1 : (Val.checkZ (.mk k n w vi vy) != 0) = true := by simp [hz]
  rw [if_pos hz] at hZ
  (refine AX.run0 e1 ?_)
  exact ⟨_, le_refl _, by rw [← hZ]; rfl⟩
 have e1 : (Val.checkZ (.mk k n w vi vy) != 0) = false := by simp [hz]
 rw [if_neg (by simp [hz])] at hZ
 (refine AX.run0 e1 ?_)
 refine use (hk _) ?_
 cases hK : Sf.known (.mk k n w vi vy)
 ·rw [hK, if_pos (by decide)] at hZ
  (refine AX.run0 True.intro ?_)
  exact ⟨_, le_refl _, by rw [← hZ]; rfl⟩
 ·rw [hK, if_neg (by decide)] at hZ
  (refine AX.run0 True.intro ?_)
  exact ⟨_, le_refl _, by rw [← hZ]; rfl⟩
theorem a_statics (L : Leafs) (ds : List (List UInt8)) (hn : ds.length ≤ 1000000000) (hs : ∀ s ∈ ds, s.length ≤ 2000000) (h : Hp) : ACall Tryz.prog GT 78 [.sl 1 .no (strsA ds)] h fun r h' => r = .bool (Sf.depsB none ds) ∧ h' = h := by
 refine pcall ?_ rfl (by simp [A.pure, A.data]) h
 refine acall_of mixedT h_sstatics (by simp [c_sstatics]) ?_
 dsimp only [c_sstatics]
 obtain ⟨D, hD⟩ : ∃ D, Sf.depsB none ds = D := ⟨_, rfl⟩
 rw [hD]
 have lm : (strsA ds).length = ds.length := strsA_length ds
 (refine AX.run0 lm ?_)
 refine awp_loop (fun mm ts h => ∃ (j : Nat), mm = ds.length - j ∧ j ≤ ds.length ∧ h = ⟨[], []⟩ ∧ Sf.depsB (if j = 0 then none else ds[j - 1]?) (ds.drop j) = D ∧ ts 0 = .sl 1 .no (strsA ds) ∧ ts 7 = .sl 1 .no (strsA ds) ∧ ts 8 = .int .i64 (ds.length : Nat) ∧ ts 9 = .int .i64 (j : Nat)) ds.length ?_ ?_
 ·exact ⟨0, by omega, by omega, rfl, hD, by (exact AX.ev0 True.intro), by (exact AX.ev0 True.intro), by (exact AX.ev0 lm), by (exact AX.inv0 True.intro)⟩
 rintro mm ts h ⟨j, rfl, hjc, rfl, hit, t0, ta, tb, tc⟩
 by_cases hj : j < ds.length
 ·have hlt : (j : Int) < (ds.length : Int) := by omega
  have hlt' : (j : Int) < ((strsA ds).length : Int) := by rw [strsA_length]; exact hlt
  have hj0 : (0 : Int) ≤ (j : Int) := by omega
  have ei : IntKind.i64.wrap ((j : Int) + 1) = ((j + 1 : Nat) : Int) := by rw [wrap64 (by omega) (by omega)]; omega
  have hg := strsA_get ds j hj
  have hst := fun h => L.static ds[j] (hs _ (List.getElem_mem hj)) h
  rw [List.drop_eq_getElem_cons hj] at hit
  unfold Sf.depsB at hit
  have hsB : Sf.staticB ds[j] = ((Adr.static ds[j]).2 == 0 && (Adr.static ds[j]).1 == ds[j]) := rfl
  obtain ⟨⟨w, e⟩, hw⟩ : ∃ q, Adr.static ds[j] = q := ⟨_, rfl⟩
  rw [hw] at hst hsB
  dsimp only at hst hsB
  rw [hsB] at hit
  (refine AX.run0 (And.intro t0 (And.intro ta (And.intro tb (And.intro tc (And.intro hlt (And.intro hg (And.intro hlt' hj0))))))) ?_)
  refine use (hst _) ?_
  by_cases he : e = 0
  rotate_left
  ·have e1 : (e != 0) = true := by simp [he]
   have e2 : (e == 0) = false := by simp [he]
   rw [e2, Bool.false_and, Bool.false_and, Bool.false_and] at hit
   subst hit
   (refine AX.run0 (And.intro t0 (And.intro ta (And.intro tb (And.intro tc e1)))) ?_)
   exact ⟨_, le_refl _, rfl⟩
  have e1 : (e != 0) = false := by simp [he]
  have e2 : (e == 0) = true := by simp [he]
  rw [e2, Bool.true_and] at hit
  by_cases hw2 : w = ds[j]
  rotate_left
  ·have w1 : (w != ds[j]) = true := by simp [hw2]
   have w2 : (w == ds[j]) = false := by simp [hw2]
   rw [w2, Bool.false_and, Bool.false_and] at hit
   subst hit
   (refine AX.run0 (And.intro t0 (And.intro ta (And.intro tb (And.intro tc (And.intro e1 w1))))) ?_)
   exact ⟨_, le_refl _, rfl⟩
  have w1 : (w != ds[j]) = false := by simp [hw2]
  have w2 : (w == ds[j]) = true := by simp [hw2]
  rw [w2, Bool.true_and] at hit
  cases j with
  | zero =>
   have h0 : ¬ ((0 : Nat) : Int) > 0 := by omega
   simp only [if_true, Val.badB, Bool.not_false, Bool.true_and] at hit
   (refine AX.run0 (And.intro t0 (And.intro ta (And.intro tb (And.intro tc (And.intro e1 (And.intro w1 (And.intro h0 ei))))))) ?_)
   exact ⟨ds.length - 1, by omega, 1, rfl, by omega, rfl, by rw [← hit]; simp [hj], by (exact AX.ev0 t0), by (exact AX.ev0 ta), by (exact AX.ev0 tb), by (exact AX.ev0 ei)⟩
  | succ i =>
   have h0 : ((i + 1 : Nat) : Int) > 0 := by omega
   have ej : IntKind.i64.wrap (((i + 1 : Nat) : Int) - 1) = (i : Int) := by rw [wrap64 (by omega) (by omega)]; omega
   have hg2 := strsA_get ds i (by omega)
   have hi' : (i : Int) < ((strsA ds).length : Int) := by omega
   have hi0 : (0 : Int) ≤ (i : Int) := by omega
   have hki : ds[i + 1 - 1]? = some (ds[i]'(by omega)) := List.getElem?_eq_getElem (by omega)
   rw [if_neg (by omega), hki] at hit
   simp only [Val.badB] at hit
   rw [Val.less_total] at hit
   rcases bool_or (bytesLess ds[i + 1] ds[i] || ds[i + 1] == ds[i]) with hb | hb
   ·rw [hb] at hit
    (refine AX.run0 (And.intro t0 (And.intro ta (And.intro tb (And.intro tc (And.intro e1 (And.intro w1 (And.intro h0 (And.intro ej (And.intro hg2 (And.intro hi' (And.intro hi0 (And.intro hb ei)))))))))))) ?_)
    first
    | (subst hit; exact ⟨_, le_refl _, rfl⟩)
    | exact ⟨ds.length - (i + 1 + 1), by omega, i + 1 + 1, rfl, by omega, rfl, by rw [← hit]; simp [hj], by (exact AX.ev0 t0), by (exact AX.ev0 ta), by (exact AX.ev0 tb), by (exact AX.ev0 ei)⟩
   ·rw [hb] at hit
    (refine AX.run0 (And.intro t0 (And.intro ta (And.intro tb (And.intro tc (And.intro e1 (And.intro w1 (And.intro h0 (And.intro ej (And.intro hg2 (And.intro hi' (And.intro hi0 (And.intro hb ei)))))))))))) ?_)
    first
    | (subst hit; exact ⟨_, le_refl _, rfl⟩)
    | exact ⟨ds.length - (i + 1 + 1), by omega, i + 1 + 1, rfl, by omega, rfl, by rw [← hit]; simp [hj], by (exact AX.ev0 t0), by (exact AX.ev0 ta), by (exact AX.ev0 tb), by (exact AX.ev0 ei)⟩
 ·have hlt : ¬ ((j : Int) < (ds.length : Int)) := by omega
  rw [List.drop_eq_nil_of_le (by omega)] at hit
  unfold Sf.depsB at hit
  subst hit
  (refine AX.run0 (And.intro t0 (And.intro ta (And.intro tb (And.intro tc hlt)))) ?_)
  exact ⟨_, le_refl _, rfl⟩
structure Sf.InstIn (x : Sf.Inst) : Prop where
 a : x.addr.length ≤ 2000000
 d : x.dep.length ≤ 2000000
 i : x.id.length ≤ 2000000
 l : x.attrs.lens
 n : x.deps.length ≤ 1000000000
 ds : ∀ s ∈ x.deps, s.length ≤ 2000000
theorem a_instance (L : Leafs) (x : Sf.Inst) (hx : Sf.InstIn x) (h : Hp) : ACall Tryz.prog GT 40 [.agg x.cells] h fun r h' => r = .int .i64 (Sf.instZ x) ∧ h' = h := by
 have cm := fun h => a_managed L x.addr x.typ hx.a h
 have ck := fun h => a_key L x.dep hx.d h
 have ct := fun h => L.text x.id hx.i h
 have cv := fun h => a_vCheck x.attrs hx.l h
 have cn := fun h => L.known x.attrs hx.l h
 have cs := fun h => a_statics L x.deps hx.n hx.ds h
 obtain ⟨Z, hZ⟩ : ∃ Z, Sf.instZ x = Z := ⟨_, rfl⟩
 rw [hZ]
 unfold Sf.instZ Sf.keyB at hZ
 obtain ⟨a, d, id, ty, ⟨k, n, w, vi, vy⟩, v, tn, fi, ds⟩ := x
 clear hx
 dsimp only at cm ck ct cv cn cs hZ
 have hVA : (V.mk k n w vi vy).A = .agg [.int .i64 k, .int .i64 n, .str w, .sl 5 .no (V.cellss vi), .sl 1 .no (strsA vy)] := by simp only [V.A, V.cells]
 rw [hVA] at cv cn
 obtain ⟨M, hM⟩ : ∃ M, Sf.managed a ty = M := ⟨_, rfl⟩
 obtain ⟨K, hK⟩ : ∃ K, ((Num.parse d).2 == 0 && decide (1 ≤ (Num.parse d).1)) = K := ⟨_, rfl⟩
 obtain ⟨T, hT⟩ : ∃ T, Sf.text id = T := ⟨_, rfl⟩
 obtain ⟨C, hC⟩ : ∃ C, Val.checkZ (.mk k n w vi vy) = C := ⟨_, rfl⟩
 obtain ⟨N, hN⟩ : ∃ N, Sf.known (.mk k n w vi vy) = N := ⟨_, rfl⟩
 obtain ⟨S, hS⟩ : ∃ S, Sf.depsB none ds = S := ⟨_, rfl⟩
 have hkd : Sf.V.kind (.mk k n w vi vy) = k := rfl
 rw [hM] at cm hZ
 rw [hK] at ck hZ
 rw [hT] at ct hZ
 rw [hC] at cv hZ
 rw [hN] at cn hZ
 rw [hS] at cs hZ
 rw [hkd] at hZ
 refine pcall ?_ rfl (by simp [A.pure, A.data, Sf.Inst.cells]) h
 refine acall_of mixedT h_sinstance (by simp [c_sinstance]) ?_
 dsimp only [c_sinstance, Sf.Inst.cells]
 (refine AX.run0 True.intro ?_)
 refine use (cm _) ?_
 cases M
 ·rw [if_pos (by simp)] at hZ
  subst hZ
  (refine AX.run0 True.intro ?_)
  exact ⟨_, le_refl _, rfl⟩
 have key : ∀ {G : Prop}, ((d != []) = false → (d == []) = true → G) → ((d != []) = true → (d == []) = false → G) → G := fun p q => by
  by_cases e : d = []
  ·exact p (by simp [e]) (by simp [e])
  ·exact q (by simp [e]) (by simp [e])
 have rest : True := True.intro
 refine key (fun d1 d2 => ?_) (fun d1 d2 => ?_)
 all_goals rw [d2] at hZ
 ·(refine AX.run0 d1 ?_)
  refine use (ct _) ?_
  cases T
  ·rw [if_pos (by simp)] at hZ
   subst hZ
   (refine AX.run0 True.intro ?_)
   exact ⟨_, le_refl _, rfl⟩
  rw [if_neg (by simp)] at hZ
  (refine AX.run0 True.intro ?_)
  refine use (cv _) ?_
  by_cases hz : C = 0
  rotate_left
  ·have e1 : (C != 0) = true := by simp [hz]
   rw [if_pos hz] at hZ
   (refine AX.run0 e1 ?_)
   exact ⟨_, le_refl _, by rw [← hZ]; rfl⟩
  have e1 : (C != 0) = false := by simp [hz]
  rw [if_neg (by simp [hz])] at hZ
  by_cases hk5 : k = 5
  rotate_left
  ·have e2 : (k != 5) = true := by simp [hk5]
   rw [if_pos hk5] at hZ
   (refine AX.run0 (And.intro e1 e2) ?_)
   exact ⟨_, le_refl _, by rw [← hZ]; rfl⟩
  have e2 : (k != 5) = false := by simp [hk5]
  rw [if_neg (by simp [hk5])] at hZ
  (refine AX.run0 (And.intro e1 e2) ?_)
  refine use (cn _) ?_
  cases N
  ·rw [if_pos (by simp)] at hZ
   (refine AX.run0 True.intro ?_)
   exact ⟨_, le_refl _, by rw [← hZ]; rfl⟩
  rw [if_neg (by simp)] at hZ
  by_cases v0 : v < 1
  ·rw [if_pos (.inl v0)] at hZ
   (refine AX.run0 v0 ?_)
   exact ⟨_, le_refl _, by rw [← hZ]; rfl⟩
  by_cases v1 : v > 9007199254740992
  ·rw [if_pos (.inr v1)] at hZ
   (refine AX.run0 (And.intro v0 v1) ?_)
   exact ⟨_, le_refl _, by rw [← hZ]; rfl⟩
  rw [if_neg (by omega)] at hZ
  (refine AX.run0 (And.intro v0 v1) ?_)
  refine use (cs _) ?_
  cases S
  ·rw [if_pos (by simp)] at hZ
   (refine AX.run0 True.intro ?_)
   exact ⟨_, le_refl _, by rw [← hZ]; rfl⟩
  ·rw [if_neg (by simp)] at hZ
   (refine AX.run0 True.intro ?_)
   exact ⟨_, le_refl _, by rw [← hZ]; rfl⟩
 ·(refine AX.run0 d1 ?_)
  refine use (ck _) ?_
  cases K
  ·rw [if_pos (by simp)] at hZ
   subst hZ
   (refine AX.run0 True.intro ?_)
   exact ⟨_, le_refl _, rfl⟩
  (refine AX.run0 True.intro ?_)
  refine use (ct _) ?_
  cases T
  ·rw [if_pos (by simp)] at hZ
   subst hZ
   (refine AX.run0 True.intro ?_)
   exact ⟨_, le_refl _, rfl⟩
  rw [if_neg (by simp)] at hZ
  (refine AX.run0 True.intro ?_)
  refine use (cv _) ?_
  by_cases hz : C = 0
  rotate_left
  ·have e1 : (C != 0) = true := by simp [hz]
   rw [if_pos hz] at hZ
   (refine AX.run0 e1 ?_)
   exact ⟨_, le_refl _, by rw [← hZ]; rfl⟩
  have e1 : (C != 0) = false := by simp [hz]
  rw [if_neg (by simp [hz])] at hZ
  by_cases hk5 : k = 5
  rotate_left
  ·have e2 : (k != 5) = true := by simp [hk5]
   rw [if_pos hk5] at hZ
   (refine AX.run0 (And.intro e1 e2) ?_)
   exact ⟨_, le_refl _, by rw [← hZ]; rfl⟩
  have e2 : (k != 5) = false := by simp [hk5]
  rw [if_neg (by simp [hk5])] at hZ
  (refine AX.run0 (And.intro e1 e2) ?_)
  refine use (cn _) ?_
  cases N
  ·rw [if_pos (by simp)] at hZ
   (refine AX.run0 True.intro ?_)
   exact ⟨_, le_refl _, by rw [← hZ]; rfl⟩
  rw [if_neg (by simp)] at hZ
  by_cases v0 : v < 1
  ·rw [if_pos (.inl v0)] at hZ
   (refine AX.run0 v0 ?_)
   exact ⟨_, le_refl _, by rw [← hZ]; rfl⟩
  by_cases v1 : v > 9007199254740992
  ·rw [if_pos (.inr v1)] at hZ
   (refine AX.run0 (And.intro v0 v1) ?_)
   exact ⟨_, le_refl _, by rw [← hZ]; rfl⟩
  rw [if_neg (by omega)] at hZ
  (refine AX.run0 (And.intro v0 v1) ?_)
  refine use (cs _) ?_
  cases S
  ·rw [if_pos (by simp)] at hZ
   (refine AX.run0 True.intro ?_)
   exact ⟨_, le_refl _, by rw [← hZ]; rfl⟩
  ·rw [if_neg (by simp)] at hZ
   (refine AX.run0 True.intro ?_)
   exact ⟨_, le_refl _, by rw [← hZ]; rfl⟩
end AX
end Go.Proofs.YtnjkemakcejceaaGreatDoor

namespace Go.Proofs.YtnjkemakcejceaaGreatDoor
open Go.RowKit
open Go.Op (bytesLess)
set_option maxHeartbeats 4000000
namespace Adr
theorem indexAny_word : ∀ s : List UInt8, (Lib.indexAny s [46, 91] = -1 ∧ s.takeWhile (fun c => !stopB c) = s ∧ s.dropWhile (fun c => !stopB c) = []) ∨
  ∃ n : Nat, Lib.indexAny s [46, 91] = n ∧ n ≤ s.length ∧ s.takeWhile (fun c => !stopB c) = s.take n ∧ s.dropWhile (fun c => !stopB c) = s.drop n
 | [] => .inl ⟨rfl, rfl, rfl⟩
 | c :: s => by
  have hc : ([46, 91] : List UInt8).contains c = stopB c := by
   unfold stopB
   simp
   rfl
  unfold Lib.indexAny
  rw [hc]
  cases h : stopB c
  ·rcases indexAny_word s with ⟨h1, h2, h3⟩ | ⟨n, h1, h2, h3, h4⟩
   ·refine .inl ⟨by rw [h1]; rfl, ?_, ?_⟩
    ·rw [List.takeWhile_cons_of_pos (by simp [h]), h2]
    ·rw [List.dropWhile_cons_of_pos (by simp [h]), h3]
   ·refine .inr ⟨n + 1, ?_, by simpa using h2, ?_, ?_⟩
    ·rw [h1]
     have e : ((n : Int) == -1) = false := by simp <;> omega
     simp only [Bool.false_eq_true, if_false, e]
     omega
    ·rw [List.takeWhile_cons_of_pos (by simp [h]), h3, List.take_succ_cons]
    ·rw [List.dropWhile_cons_of_pos (by simp [h]), h4, List.drop_succ_cons]
  ·refine .inr ⟨0, rfl, Nat.zero_le _, ?_, ?_⟩
   ·rw [List.takeWhile_cons_of_neg (by simp [h])]; rfl
   ·rw [List.dropWhile_cons_of_neg (by simp [h])]; rfl
theorem indexByte_key : ∀ s : List UInt8, (s.all (· != 93) = true ∧ Lib.indexByte s 93 = -1) ∨ (s.all (· != 93) = false ∧ Lib.indexByte s 93 = ((s.takeWhile (· != 93)).length : Nat) ∧ (s.takeWhile (· != 93)).length ≤ s.length)
 | [] => .inl ⟨rfl, rfl⟩
 | c :: s => by
  unfold Lib.indexByte
  by_cases h : c = 93
  ·subst h
   refine .inr ⟨by simp, ?_, Nat.le_of_lt_succ (by simp)⟩
   simp
  ·have hb : (c == 93) = false := by simp [h]
   have hn : (c != 93) = true := by simp [h]
   rcases indexByte_key s with ⟨h1, h2⟩ | ⟨h1, h2, h3⟩
   ·refine .inl ⟨by rw [List.all_cons, hn, h1]; rfl, ?_⟩
    simp [hb, h, h2]
   ·refine .inr ⟨by rw [List.all_cons, h1, Bool.and_false], ?_, ?_⟩
    ·simp only [List.takeWhile_cons, hn, if_true, List.length_cons, hb, Bool.false_eq_true, if_false, h2]
     have e : (((s.takeWhile (· != 93)).length : Nat) : Int) == -1 ↔ False := by simp <;> omega
     rw [if_neg (by rw [e]; exact id)]
     omega
    ·simp only [List.takeWhile_cons, hn, if_true, List.length_cons]
     omega
theorem cmp_bytes : ∀ a b : List UInt8, Lib.compareBytes a b = AX.cmpZ a b
 | [], [] => rfl
 | [], _ :: _ => rfl
 | _ :: _, [] => rfl
 | a :: a1, b :: b1 => by
  have ih := cmp_bytes a1 b1
  unfold AX.cmpZ at ih ⊢
  unfold Lib.compareBytes bytesLess
  by_cases h1 : a < b
  ·have hne : a ≠ b := by intro e; subst e; exact absurd h1 (by simp)
   simp [h1, hne]
  ·by_cases h2 : b < a
   ·have hne : a ≠ b := by intro e; subst e; exact absurd h2 (by simp)
    simp [h1, h2, hne]
   ·have he : a = b := by
     have h3 : ¬ a.toNat < b.toNat := h1
     have h4 : ¬ b.toNat < a.toNat := h2
     exact UInt8.toNat_inj.1 (by omega)
    subst he
    rw [if_neg h1, if_neg h2, ih]
    simp
end Adr
namespace AX
def c_akind : AX.AFn := ⟨18, .seq (.reg false [⟨some 2, .mv (.c (.bool false)), none, []⟩]) (.seq (.seq (.reg false [⟨some 3, .mv (.t 0), none, []⟩]) (.block 0 (.seq (.seq (.reg false [⟨some 5, .bin .eql (.t 3) (.c (.str [109, 111, 100, 117, 108, 101])), none, []⟩, ⟨some 4, .mv (.t 5), none, []⟩]) (.cond (.t 4) (.skip) (.seq (.reg false [⟨some 6, .bin .eql (.t 3) (.c (.str [100, 97, 116, 97])), none, []⟩, ⟨some 4, .mv (.t 6), none, []⟩]) (.cond (.t 4) (.skip) (.seq (.reg false [⟨some 7, .bin .eql (.t 3) (.c (.str [118, 97, 114])), none, []⟩, ⟨some 4, .mv (.t 7), none, []⟩]) (.cond (.t 4) (.skip) (.seq (.reg false [⟨some 8, .bin .eql (.t 3) (.c (.str [108, 111, 99, 97, 108])), none, []⟩, ⟨some 4, .mv (.t 8), none, []⟩]) (.cond (.t 4) (.skip) (.seq (.reg false [⟨some 9, .bin .eql (.t 3) (.c (.str [101, 97, 99, 104])), none, []⟩, ⟨some 4, .mv (.t 9), none, []⟩]) (.cond (.t 4) (.skip) (.seq (.reg false [⟨some 10, .bin .eql (.t 3) (.c (.str [99, 111, 117, 110, 116])), none, []⟩, ⟨some 4, .mv (.t 10), none, []⟩]) (.cond (.t 4) (.skip) (.seq (.reg false [⟨some 11, .bin .eql (.t 3) (.c (.str [114, 101, 109, 111, 116, 101])), none, []⟩, ⟨some 4, .mv (.t 11), none, []⟩]) (.cond (.t 4) (.skip) (.seq (.reg false [⟨some 12, .bin .eql (.t 3) (.c (.str [111, 117, 116, 112, 117, 116])), none, []⟩, ⟨some 4, .mv (.t 12), none, []⟩]) (.cond (.t 4) (.skip) (.seq (.reg false [⟨some 13, .bin .eql (.t 3) (.c (.str [112, 97, 116, 104])), none, []⟩, ⟨some 4, .mv (.t 13), none, []⟩]) (.cond (.t 4) (.skip) (.seq (.reg false [⟨some 14, .bin .eql (.t 3) (.c (.str [115, 101, 108, 102])), none, []⟩, ⟨some 4, .mv (.t 14), none, []⟩]) (.cond (.t 4) (.skip) (.reg false [⟨some 15, .bin .eql (.t 3) (.c (.str [99, 104, 97, 110, 103, 101])), none, []⟩, ⟨some 4, .mv (.t 15), none, []⟩]))))))))))))))))))))) (.cond (.t 4) (.seq (.reg false [⟨some 2, .mv (.c (.bool false)), none, []⟩]) (.ret)) (.skip))))) (.seq (.reg false [⟨some 16, .mv (.t 0), none, []⟩, ⟨some 17, .call 82 [.t 16], none, []⟩, ⟨some 2, .mv (.t 17), none, []⟩]) (.ret))), [.t 2]⟩
theorem h_akind : AX.compFn Tryz.prog 126 = some c_akind := by kernel_rfl
def c_aword : AX.AFn := ⟨45, .seq (.reg false [⟨some 2, .mv (.c (.str [])), none, []⟩]) (.seq (.reg false [⟨some 5, .mv (.t 0), none, []⟩, ⟨some 6, .nilck (.t 5), none, []⟩, ⟨some 7, .faddr 0 (.t 6), none, []⟩, ⟨some 8, .load false 1 (.t 7), none, []⟩, ⟨some 9, .call 159 [.t 8, .c (.str [46, 91])], none, []⟩, ⟨some 3, .mv (.t 9), none, []⟩]) (.seq (.seq (.reg false [⟨some 10, .mv (.t 3), none, []⟩, ⟨some 11, .bin .lss (.t 10) (.c (.int .i64 0)), none, []⟩]) (.cond (.t 11) (.reg false [⟨some 12, .mv (.t 0), none, []⟩, ⟨some 13, .nilck (.t 12), none, []⟩, ⟨some 14, .faddr 0 (.t 13), none, []⟩, ⟨some 15, .load false 1 (.t 14), none, []⟩, ⟨some 16, .len true (.t 15), none, []⟩, ⟨some 3, .mv (.t 16), none, []⟩]) (.skip))) (.seq (.reg false [⟨some 17, .mv (.t 0), none, []⟩, ⟨some 18, .nilck (.t 17), none, []⟩, ⟨some 19, .faddr 0 (.t 18), none, []⟩, ⟨some 20, .load false 1 (.t 19), none, []⟩, ⟨some 21, .mv (.t 3), none, []⟩, ⟨some 22, .ssl (.t 20) none (some (.t 21)), none, []⟩, ⟨some 4, .mv (.t 22), none, []⟩]) (.seq (.reg false [⟨some 23, .mv (.t 0), none, []⟩, ⟨some 24, .mv (.t 0), none, []⟩, ⟨some 25, .nilck (.t 24), none, []⟩, ⟨some 26, .faddr 0 (.t 25), none, []⟩, ⟨some 27, .load false 1 (.t 26), none, []⟩, ⟨some 28, .mv (.t 3), none, []⟩, ⟨some 29, .ssl (.t 27) (some (.t 28)) none, none, []⟩, ⟨some 30, .nilck (.t 23), none, []⟩, ⟨some 31, .faddr 0 (.t 30), none, []⟩, ⟨none, .store 1 (.t 31) (.t 29), none, []⟩]) (.seq (.reg false [⟨some 32, .mv (.t 0), none, []⟩, ⟨some 33, .mv (.t 0), none, []⟩, ⟨some 34, .nilck (.t 33), none, []⟩, ⟨some 35, .faddr 1 (.t 34), none, []⟩, ⟨some 36, .load false 1 (.t 35), none, []⟩, ⟨some 37, .mv (.t 36), none, []⟩, ⟨some 38, .mv (.t 4), some (37, false), []⟩, ⟨some 39, .call 82 [.t 38], some (37, false), []⟩, ⟨some 40, .un .not (.t 39), some (37, false), []⟩, ⟨some 41, .pick (.t 37) (.c (.bool true)) (.t 40), none, []⟩, ⟨some 42, .nilck (.t 32), none, []⟩, ⟨some 43, .faddr 1 (.t 42), none, []⟩, ⟨none, .store 1 (.t 43) (.t 41), none, []⟩]) (.seq (.reg false [⟨some 44, .mv (.t 4), none, []⟩, ⟨some 2, .mv (.t 44), none, []⟩]) (.ret))))))), [.t 2]⟩
theorem h_aword : AX.compFn Tryz.prog 124 = some c_aword := by kernel_rfl
def c_avalid : AX.AFn := ⟨35, .seq (.reg false [⟨some 1, .box 131 (.t 0), none, []⟩, ⟨some 2, .mv (.c (.bool false)), none, []⟩]) (.seq (.seq (.reg false [⟨some 3, .faddr 0 (.t 1), none, []⟩, ⟨some 4, .load false 1 (.t 3), none, []⟩]) (.block 0 (.seq (.reg false [⟨some 6, .bin .eql (.t 4) (.c (.int .i64 0)), none, []⟩, ⟨some 5, .mv (.t 6), none, []⟩]) (.cond (.t 5) (.seq (.reg false [⟨some 7, .load true 3 (.t 1), none, []⟩, ⟨some 8, .build [.int .i64 0, .int .i64 0, .str []] [], none, []⟩, ⟨some 9, .eq 2 [0, 0, 1] false (.t 7) (.t 8), none, []⟩, ⟨some 2, .mv (.t 9), none, []⟩]) (.ret)) (.seq (.reg false [⟨some 11, .bin .eql (.t 4) (.c (.int .i64 1)), none, []⟩, ⟨some 10, .mv (.t 11), none, []⟩]) (.cond (.t 10) (.seq (.reg false [⟨some 12, .faddr 1 (.t 1), none, []⟩, ⟨some 13, .load false 1 (.t 12), none, []⟩, ⟨some 14, .bin .geq (.t 13) (.c (.int .i64 0)), none, []⟩, ⟨some 15, .mv (.t 14), none, []⟩, ⟨some 16, .faddr 1 (.t 1), some (15, true), []⟩, ⟨some 17, .load false 1 (.t 16), some (15, true), []⟩, ⟨some 18, .bin .leq (.t 17) (.c (.int .i64 9007199254740992)), some (15, true), []⟩, ⟨some 19, .pick (.t 15) (.t 18) (.c (.bool false)), none, []⟩, ⟨some 20, .mv (.t 19), none, []⟩, ⟨some 21, .faddr 2 (.t 1), some (20, true), []⟩, ⟨some 22, .load false 1 (.t 21), some (20, true), []⟩, ⟨some 23, .bin .eql (.t 22) (.c (.str [])), some (20, true), []⟩, ⟨some 24, .pick (.t 20) (.t 23) (.c (.bool false)), none, []⟩, ⟨some 2, .mv (.t 24), none, []⟩]) (.ret)) (.seq (.reg false [⟨some 26, .bin .eql (.t 4) (.c (.int .i64 2)), none, []⟩, ⟨some 25, .mv (.t 26), none, []⟩]) (.cond (.t 25) (.seq (.reg false [⟨some 27, .faddr 1 (.t 1), none, []⟩, ⟨some 28, .load false 1 (.t 27), none, []⟩, ⟨some 29, .bin .eql (.t 28) (.c (.int .i64 0)), none, []⟩, ⟨some 30, .mv (.t 29), none, []⟩, ⟨some 31, .faddr 2 (.t 1), some (30, true), []⟩, ⟨some 32, .load false 1 (.t 31), some (30, true), []⟩, ⟨some 33, .call 74 [.t 32], some (30, true), []⟩, ⟨some 34, .pick (.t 30) (.t 33) (.c (.bool false)), none, []⟩, ⟨some 2, .mv (.t 34), none, []⟩]) (.ret)) (.skip))))))))) (.seq (.reg false [⟨some 2, .mv (.c (.bool false)), none, []⟩]) (.ret))), [.t 2]⟩
theorem h_avalid : AX.compFn Tryz.prog 210 = some c_avalid := by kernel_rfl
theorem a_cmp (a b : List UInt8) (h : Hp) : ACall Tryz.prog GT 80 [.str a, .str b] h fun r h' => r = .int .i64 (cmpZ a b) ∧ h' = h := by
 rw [← Adr.cmp_bytes]
 exact acall_imp (args2 r_str r_str) (fun w hg => (Tryz.strings_Compare ⟨a.toArray⟩ ⟨b.toArray⟩ w).mono fun e w' ⟨h1, h2⟩ => ⟨h1, by rw [h2]; exact Below.refl _ _⟩) (fun C => rep_int.2 rfl) h
theorem a_indexAny (s : List UInt8) (hs : s.length ≤ 2000000) (h : Hp) : ACall Tryz.prog GT 159 [.str s, .str [46, 91]] h fun r h' => r = .int .i64 (Lib.indexAny s [46, 91]) ∧ h' = h :=
 acall_imp (args2 r_str r_str) (fun w hg => indexAny_any ⟨s.toArray⟩ (by rw [size_mk]; omega) w) (fun C => rep_int.2 rfl) h
theorem a_indexByte (s : List UInt8) (h : Hp) : ACall Tryz.prog GT 162 [.str s, .int .u8 93] h fun r h' => r = .int .i64 (Lib.indexByte s 93) ∧ h' = h :=
 acall_imp (args2 r_str r_int) (fun w hg => (Tryz.strings_IndexByte ⟨s.toArray⟩ 93 w).mono fun e w' ⟨h1, h2⟩ => ⟨h1, by rw [h2]; exact Below.refl _ _⟩) (fun C => rep_int.2 rfl) h
theorem a_kind (s : List UInt8) (hs : s.length ≤ 2000000) (h : Hp) : ACall Tryz.prog GT 126 [.str s] h fun r h' => r = .bool (Adr.kindB s) ∧ h' = h := by
 refine pcall ?_ rfl (by simp [A.pure, A.data]) h
 refine acall_of mixedT h_akind (by simp [c_akind]) ?_
 dsimp only [c_akind]
 have hi := fun h => a_ident s hs h
 have hk : Adr.kindB s = (!Adr.reserved s && Adr.ident s) := rfl
 have hr : ∀ {G : Prop} (w : List UInt8), ((s == w) = true → G) → ((s == w) = false → G) → G := fun w p q => by
  cases e : s == w
  ·exact q e
  ·exact p e
 have res : ∀ w, (s == w) = true → w ∈ Adr.reservedL → Adr.kindB s = false := fun w e hw => by
  rw [beq_iff_eq] at e; subst e
  rw [hk]
  unfold Adr.reserved
  rw [List.contains_iff_mem.2 hw]; rfl
 refine hr [109, 111, 100, 117, 108, 101] (fun e1 => ?_) fun e1 => ?_
 ·(refine AX.run0 e1 ?_)
  exact ⟨_, le_refl _, by rw [res _ e1 (by decide)]; rfl⟩
 refine hr [100, 97, 116, 97] (fun e2 => ?_) fun e2 => ?_
 ·(refine AX.run0 (And.intro e1 e2) ?_)
  exact ⟨_, le_refl _, by rw [res _ e2 (by decide)]; rfl⟩
 refine hr [118, 97, 114] (fun e3 => ?_) fun e3 => ?_
 ·(refine AX.run0 (And.intro e1 (And.intro e2 e3)) ?_)
  exact ⟨_, le_refl _, by rw [res _ e3 (by decide)]; rfl⟩
 refine hr [108, 111, 99, 97, 108] (fun e4 => ?_) fun e4 => ?_
 ·(refine AX.run0 (And.intro e1 (And.intro e2 (And.intro e3 e4))) ?_)
  exact ⟨_, le_refl _, by rw [res _ e4 (by decide)]; rfl⟩
 refine hr [101, 97, 99, 104] (fun e5 => ?_) fun e5 => ?_
 ·(refine AX.run0 (And.intro e1 (And.intro e2 (And.intro e3 (And.intro e4 e5)))) ?_)
  exact ⟨_, le_refl _, by rw [res _ e5 (by decide)]; rfl⟩
 refine hr [99, 111, 117, 110, 116] (fun e6 => ?_) fun e6 => ?_
 ·(refine AX.run0 (And.intro e1 (And.intro e2 (And.intro e3 (And.intro e4 (And.intro e5 e6))))) ?_)
  exact ⟨_, le_refl _, by rw [res _ e6 (by decide)]; rfl⟩
 refine hr [114, 101, 109, 111, 116, 101] (fun e7 => ?_) fun e7 => ?_
 ·(refine AX.run0 (And.intro e1 (And.intro e2 (And.intro e3 (And.intro e4 (And.intro e5 (And.intro e6 e7)))))) ?_)
  exact ⟨_, le_refl _, by rw [res _ e7 (by decide)]; rfl⟩
 refine hr [111, 117, 116, 112, 117, 116] (fun e8 => ?_) fun e8 => ?_
 ·(refine AX.run0 (And.intro e1 (And.intro e2 (And.intro e3 (And.intro e4 (And.intro e5 (And.intro e6 (And.intro e7 e8))))))) ?_)
  exact ⟨_, le_refl _, by rw [res _ e8 (by decide)]; rfl⟩
 refine hr [112, 97, 116, 104] (fun e9 => ?_) fun e9 => ?_
 ·(refine AX.run0 (And.intro e1 (And.intro e2 (And.intro e3 (And.intro e4 (And.intro e5 (And.intro e6 (And.intro e7 (And.intro e8 e9)))))))) ?_)
  exact ⟨_, le_refl _, by rw [res _ e9 (by decide)]; rfl⟩
 refine hr [115, 101, 108, 102] (fun e10 => ?_) fun e10 => ?_
 ·(refine AX.run0 (And.intro e1 (And.intro e2 (And.intro e3 (And.intro e4 (And.intro e5 (And.intro e6 (And.intro e7 (And.intro e8 (And.intro e9 e10))))))))) ?_)
  exact ⟨_, le_refl _, by rw [res _ e10 (by decide)]; rfl⟩
 refine hr [99, 104, 97, 110, 103, 101] (fun e11 => ?_) fun e11 => ?_
 ·(refine AX.run0 (And.intro e1 (And.intro e2 (And.intro e3 (And.intro e4 (And.intro e5 (And.intro e6 (And.intro e7 (And.intro e8 (And.intro e9 (And.intro e10 e11)))))))))) ?_)
  exact ⟨_, le_refl _, by rw [res _ e11 (by decide)]; rfl⟩
 have hres : Adr.reserved s = false := by
  have h1 := beq_eq_false_iff_ne.1 e1; have h2 := beq_eq_false_iff_ne.1 e2; have h3 := beq_eq_false_iff_ne.1 e3; have h4 := beq_eq_false_iff_ne.1 e4
  have h5 := beq_eq_false_iff_ne.1 e5; have h6 := beq_eq_false_iff_ne.1 e6; have h7 := beq_eq_false_iff_ne.1 e7; have h8 := beq_eq_false_iff_ne.1 e8
  have h9 := beq_eq_false_iff_ne.1 e9; have h10 := beq_eq_false_iff_ne.1 e10; have h11 := beq_eq_false_iff_ne.1 e11
  unfold Adr.reserved
  rw [Bool.eq_false_iff]
  intro hc
  rw [List.contains_iff_mem] at hc
  unfold Adr.reservedL at hc
  simp only [List.mem_cons, List.not_mem_nil, or_false] at hc
  rcases hc with e | e | e | e | e | e | e | e | e | e | e <;> simp_all
 rw [hk, hres]
 (refine AX.run0 (And.intro e1 (And.intro e2 (And.intro e3 (And.intro e4 (And.intro e5 (And.intro e6 (And.intro e7 (And.intro e8 (And.intro e9 (And.intro e10 e11)))))))))) ?_)
 refine use (hi _) ?_
 (refine AX.run0 True.intro ?_)
 exact ⟨_, le_refl _, by simp [tupA_1]⟩
theorem w_word (r : Adr.Rd) (hl : r.rest.length ≤ 2000000) {h : Hp} {i : Nat} (hb : h.b[i]? = some (adB r)) :
  ACall Tryz.prog GT 124 [.ptr i 0] h fun v h' => v = .str (Adr.wordP r).1 ∧ h' = ⟨h.b.set i (adB (Adr.wordP r).2), h.t⟩ := by
 have key : ACall Tryz.prog GT 124 [.ptr 0 0] ⟨[adB r], []⟩ fun v h' => ∃ b', h'.b[0]? = some b' ∧ v = .str (Adr.wordP r).1 ∧ b' = adB (Adr.wordP r).2 := by
  obtain ⟨rest, bad⟩ := r
  dsimp only at hl
  refine acall_of mixedT h_aword (by simp [c_aword]) ?_
  dsimp only [c_aword]
  unfold adB
  have hW : Adr.wordP ⟨rest, bad⟩ = (rest.takeWhile (fun c => !Adr.stopB c), ⟨rest.dropWhile (fun c => !Adr.stopB c), bad || !Adr.ident (rest.takeWhile (fun c => !Adr.stopB c))⟩) := rfl
  rw [hW]
  have hi := fun (s : List UInt8) (hs : s.length ≤ 2000000) h => a_ident s hs h
  (refine AX.run0 True.intro ?_)
  refine use (a_indexAny rest hl _) ?_
  rcases Adr.indexAny_word rest with ⟨h1, h2, h3⟩ | ⟨n, h1, h2, h3, h4⟩
  ·rw [h1, h2, h3]
   have lm : (-1 : Int) < 0 := by decide
   have l0 : (0 : Int) ≤ (rest.length : Int) := by omega
   have td : rest.drop rest.length = [] := List.drop_length
   cases bad
   ·(refine AX.run0 (And.intro lm (And.intro l0 td)) ?_)
    refine use (hi rest hl _) ?_
    (refine AX.run0 True.intro ?_)
    exact ⟨_, le_refl _, _, rfl, rfl, rfl⟩
   ·(refine AX.run0 (And.intro lm (And.intro l0 td)) ?_)
    exact ⟨_, le_refl _, _, rfl, rfl, rfl⟩
  ·rw [h1, h3, h4]
   have lm : ¬ (n : Int) < 0 := by omega
   have l0 : (0 : Int) ≤ (n : Int) := by omega
   have l1 : (n : Int) ≤ (rest.length : Int) := by omega
   have ht : (rest.take n).length ≤ 2000000 := by rw [List.length_take]; omega
   cases bad
   ·(refine AX.run0 (And.intro lm (And.intro l0 l1)) ?_)
    refine use (hi _ ht _) ?_
    (refine AX.run0 True.intro ?_)
    exact ⟨_, le_refl _, _, rfl, rfl, rfl⟩
   ·(refine AX.run0 (And.intro lm (And.intro l0 l1)) ?_)
    exact ⟨_, le_refl _, _, rfl, rfl, rfl⟩
 refine (ACall.lift1 key rfl (adB_loc r) ?_ hb).mono ?_
 ·rintro v b' ⟨rfl, rfl⟩; exact ⟨rfl, adB_loc _⟩
 ·rintro v h' ⟨b', ⟨rfl, rfl⟩, rfl⟩; exact ⟨rfl, rfl⟩
def Adr.K.A (k : Adr.K) : A := .agg [.int .i64 k.kind, .int .i64 k.num, .str k.str]
theorem a_avalid (k : Adr.K) (hs : k.str.length ≤ 2000000) (h : Hp) : ACall Tryz.prog GT 210 [Adr.K.A k] h fun r h' => r = .bool (Adr.keyOk k) ∧ h' = h := by
 obtain ⟨kd, nm, st⟩ := k
 dsimp only at hs
 unfold Adr.K.A
 refine pcall ?_ rfl (by simp [A.pure, A.data]) h
 refine acall_of mixedT h_avalid (by simp [c_avalid]) ?_
 dsimp only [c_avalid]
 have hv := fun h => a_valid st hs h
 have hK : Adr.keyOk ⟨kd, nm, st⟩ = if kd = 1 then decide (0 ≤ nm) && decide (nm ≤ 9007199254740992) && st == [] else if kd = 2 then nm == 0 && Str.valid st else (⟨kd, nm, st⟩ : Adr.K) == Adr.K.none := rfl
 rw [hK]
 by_cases k0 : kd = 0
 ·subst k0
  have e0 : ((0 : Int) == 0) = true := by decide
  rw [if_neg (by decide), if_neg (by decide)]
  have hn : ((⟨0, nm, st⟩ : Adr.K) == Adr.K.none) = (nm == 0 && st == []) := by
   rw [Bool.eq_iff_iff, beq_iff_eq, Bool.and_eq_true, beq_iff_eq, beq_iff_eq]
   unfold Adr.K.none
   simp
  (refine AX.run0 e0 ?_)
  exact ⟨_, le_refl _, by rw [hn]; simp [tupA_1]⟩
 have e0 : (kd == 0) = false := by simp [k0]
 by_cases k1 : kd = 1
 ·subst k1
  have e1 : ((1 : Int) == 1) = true := by decide
  have e10 : ((1 : Int) == 0) = false := by decide
  rw [if_pos rfl]
  by_cases n0 : 0 ≤ nm
  ·have g0 : nm ≥ 0 := n0
   by_cases n1 : nm ≤ 9007199254740992
   ·(refine AX.run0 (And.intro e10 (And.intro e1 (And.intro g0 n1))) ?_)
    exact ⟨_, le_refl _, by rw [decide_eq_true n0, decide_eq_true n1]; rfl⟩
   ·(refine AX.run0 (And.intro e10 (And.intro e1 (And.intro g0 n1))) ?_)
    exact ⟨_, le_refl _, by rw [decide_eq_false n1, Bool.and_false]; rfl⟩
  ·have g0 : ¬ nm ≥ 0 := n0
   (refine AX.run0 (And.intro e10 (And.intro e1 g0)) ?_)
   exact ⟨_, le_refl _, by rw [decide_eq_false n0]; rfl⟩
 have e1 : (kd == 1) = false := by simp [k1]
 rw [if_neg k1]
 by_cases k2 : kd = 2
 ·subst k2
  have e20 : ((2 : Int) == 0) = false := by decide
  have e21 : ((2 : Int) == 1) = false := by decide
  have e2 : ((2 : Int) == 2) = true := by decide
  rw [if_pos rfl]
  cases hn : nm == 0
  ·(refine AX.run0 (And.intro e20 (And.intro e21 (And.intro e2 hn))) ?_)
   exact ⟨_, le_refl _, rfl⟩
  ·(refine AX.run0 (And.intro e20 (And.intro e21 (And.intro e2 hn))) ?_)
   refine use (hv _) ?_
   (refine AX.run0 (And.intro e20 (And.intro e21 (And.intro e2 hn))) ?_)
   exact ⟨_, le_refl _, rfl⟩
 have e2 : (kd == 2) = false := by simp [k2]
 rw [if_neg k2]
 have hn : ((⟨kd, nm, st⟩ : Adr.K) == Adr.K.none) = false := by
  rw [beq_eq_false_iff_ne]
  unfold Adr.K.none
  intro e; injection e with e _ _; exact k0 e
 rw [hn]
 (refine AX.run0 (And.intro e0 (And.intro e1 e2)) ?_)
 exact ⟨_, le_refl _, rfl⟩
end AX
end Go.Proofs.YtnjkemakcejceaaGreatDoor
