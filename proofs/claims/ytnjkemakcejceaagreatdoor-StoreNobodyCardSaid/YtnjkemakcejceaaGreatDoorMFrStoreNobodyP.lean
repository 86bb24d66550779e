/- Part of what the proof needs. -/
import Derived.Test.YtnjkemakcejceaaGreatDoorMFrStoreNobodyO
namespace Go.Proofs.YtnjkemakcejceaaGreatDoor
open Go.RowKit
set_option linter.unusedSimpArgs false
set_option linter.unusedVariables false
set_option maxHeartbeats 4000000
namespace AX
def c_nobody : AX.AFn := ⟨104, .seq (.reg false [⟨some 2, .mv (.c (.bool false)), none, []⟩]) (.seq (.reg false [⟨some 3, .mv (.c (.nilp)), none, []⟩]) (.seq (.reg false [⟨some 15, .build [.str [], .str [], .int .i64 0, .nilm, .str [], .int .i64 0] [], none, []⟩, ⟨some 16, .box 79 (.t 15), none, []⟩, ⟨some 4, .mv (.t 16), none, []⟩]) (.seq (.reg false [⟨some 17, .mv (.t 3), none, []⟩, ⟨some 18, .mv (.t 0), none, []⟩, ⟨some 19, .call 24 [.t 17, .t 18], none, []⟩]) (.seq (.reg false [⟨some 20, .mv (.t 4), none, []⟩, ⟨some 21, .mv (.t 0), none, []⟩, ⟨some 22, .call 24 [.t 20, .t 21], none, []⟩]) (.seq (.seq (.reg false [⟨some 23, .mv (.t 3), none, []⟩, ⟨some 24, .mv (.t 4), none, []⟩, ⟨some 25, .mkr 49 1 [.t 23, .t 24], none, []⟩, ⟨some 26, .len false (.t 25), none, []⟩, ⟨some 27, .mv (.c (.int .i64 0)), none, []⟩]) (.block 0 (.loop (.seq (.reg false [⟨some 28, .bin .lss (.t 27) (.t 26), none, []⟩]) (.seq (.cond (.t 28) (.skip) (.exit 0)) (.seq (.block 1 (.seq (.reg false [⟨some 29, .iaddr 1 (.t 25) (.t 27), none, []⟩, ⟨some 30, .load false 1 (.t 29), none, []⟩, ⟨some 6, .mv (.t 30), none, []⟩]) (.seq (.reg false [⟨some 32, .mv (.t 6), none, []⟩, ⟨some 33, .call 35 [.t 32], none, []⟩, ⟨some 31, .mv (.t 33), none, []⟩, ⟨some 34, .extract (.t 31) 0, none, []⟩, ⟨some 35, .extract (.t 31) 1, none, []⟩, ⟨some 7, .mv (.t 34), none, []⟩, ⟨some 8, .mv (.t 35), none, []⟩]) (.seq (.reg false [⟨some 37, .mv (.t 6), none, []⟩, ⟨some 38, .call 36 [.t 37], none, []⟩, ⟨some 36, .mv (.t 38), none, []⟩, ⟨some 39, .extract (.t 36) 0, none, []⟩, ⟨some 40, .extract (.t 36) 1, none, []⟩, ⟨some 9, .alloc 26 [.str [], .int .i64 0, .sl 0 .nil [], .sl 0 .nil [], .sl 0 .nil []], none, []⟩, ⟨none, .store 5 (.t 9) (.t 39), none, []⟩, ⟨some 10, .mv (.t 40), none, []⟩]) (.seq (.reg false [⟨some 42, .mv (.t 6), none, []⟩, ⟨some 43, .mv (.t 0), none, []⟩, ⟨some 44, .call 33 [.t 42, .t 43], none, []⟩, ⟨some 41, .mv (.t 44), none, []⟩, ⟨some 45, .extract (.t 41) 0, none, []⟩, ⟨some 46, .extract (.t 41) 1, none, []⟩, ⟨some 11, .alloc 26 [.str [], .int .i64 0, .sl 0 .nil [], .sl 0 .nil [], .sl 0 .nil []], none, []⟩, ⟨none, .store 5 (.t 11) (.t 45), none, []⟩, ⟨some 12, .mv (.t 46), none, []⟩]) (.seq (.reg false [⟨some 48, .mv (.t 6), none, []⟩, ⟨some 49, .mv (.t 0), none, []⟩, ⟨some 50, .call 34 [.t 48, .t 49], none, []⟩, ⟨some 47, .mv (.t 50), none, []⟩, ⟨some 51, .extract (.t 47) 0, none, []⟩, ⟨some 52, .extract (.t 47) 1, none, []⟩, ⟨some 13, .mv (.t 51), none, []⟩, ⟨some 14, .mv (.t 52), none, []⟩]) (.seq (.reg false [⟨some 53, .mv (.t 6), none, []⟩, ⟨some 54, .call 18 [.t 53, .c (.str [97]), .c (.int .i64 1)], none, []⟩, ⟨some 55, .bin .neq (.t 54) (.c (.int .i64 38)), none, []⟩, ⟨some 56, .mv (.t 55), none, []⟩, ⟨some 57, .mv (.t 6), some (56, false), []⟩, ⟨some 58, .call 20 [.t 57, .c (.str [97])], some (56, false), []⟩, ⟨some 59, .bin .neq (.t 58) (.c (.int .i64 38)), some (56, false), []⟩, ⟨some 60, .pick (.t 56) (.c (.bool true)) (.t 59), none, []⟩, ⟨some 61, .mv (.t 60), none, []⟩, ⟨some 62, .mv (.t 6), some (61, false), []⟩, ⟨some 63, .call 23 [.t 62], some (61, false), []⟩, ⟨some 64, .pick (.t 61) (.c (.bool true)) (.t 63), none, []⟩, ⟨some 65, .mv (.t 64), none, []⟩, ⟨some 66, .mv (.t 7), some (65, false), []⟩, ⟨some 67, .bin .neq (.t 66) (.c (.str [])), some (65, false), []⟩, ⟨some 68, .pick (.t 65) (.c (.bool true)) (.t 67), none, []⟩, ⟨some 69, .mv (.t 68), none, []⟩, ⟨some 70, .mv (.t 8), some (69, false), []⟩, ⟨some 71, .bin .neq (.t 70) (.c (.int .i64 0)), some (69, false), []⟩, ⟨some 72, .pick (.t 69) (.c (.bool true)) (.t 71), none, []⟩, ⟨some 73, .mv (.t 72), none, []⟩, ⟨some 74, .mv (.t 6), some (73, false), []⟩, ⟨some 75, .build [.str [], .int .i64 0, .sl 0 .nil [], .sl 0 .nil [], .sl 0 .nil []] [], some (73, false), []⟩, ⟨some 76, .call 28 [.t 74, .c (.str [97]), .t 75], some (73, false), []⟩, ⟨some 77, .bin .neq (.t 76) (.c (.int .i64 38)), some (73, false), []⟩, ⟨some 78, .pick (.t 73) (.c (.bool true)) (.t 77), none, []⟩, ⟨some 79, .mv (.t 78), none, []⟩, ⟨some 80, .mv (.t 10), some (79, false), []⟩, ⟨some 81, .bin .neq (.t 80) (.c (.int .i64 38)), some (79, false), []⟩, ⟨some 82, .pick (.t 79) (.c (.bool true)) (.t 81), none, []⟩, ⟨some 83, .mv (.t 82), none, []⟩, ⟨some 84, .mv (.t 12), some (83, false), []⟩, ⟨some 85, .bin .neq (.t 84) (.c (.int .i64 38)), some (83, false), []⟩, ⟨some 86, .pick (.t 83) (.c (.bool true)) (.t 85), none, []⟩, ⟨some 87, .mv (.t 86), none, []⟩, ⟨some 88, .mv (.t 14), some (87, false), []⟩, ⟨some 89, .bin .neq (.t 88) (.c (.int .i64 38)), some (87, false), []⟩, ⟨some 90, .pick (.t 87) (.c (.bool true)) (.t 89), none, []⟩, ⟨some 91, .mv (.t 90), none, []⟩, ⟨some 92, .mv (.t 6), some (91, false), []⟩, ⟨some 93, .call 37 [.t 92], some (91, false), []⟩, ⟨some 94, .len false (.t 93), some (91, false), []⟩, ⟨some 95, .bin .neq (.t 94) (.c (.int .i64 0)), some (91, false), []⟩, ⟨some 96, .pick (.t 91) (.c (.bool true)) (.t 95), none, []⟩, ⟨some 97, .mv (.t 96), none, []⟩, ⟨some 98, .mv (.t 6), some (97, false), []⟩, ⟨some 99, .call 30 [.t 98, .c (.str [97]), .c (.str [107])], some (97, false), []⟩, ⟨some 100, .bin .neq (.t 99) (.c (.int .i64 38)), some (97, false), []⟩, ⟨some 101, .pick (.t 97) (.c (.bool true)) (.t 100), none, []⟩]) (.cond (.t 101) (.seq (.reg false [⟨some 2, .mv (.c (.bool false)), none, []⟩]) (.ret)) (.skip))))))))) (.reg false [⟨some 102, .bin .add (.t 27) (.c (.int .i64 1)), none, []⟩, ⟨some 27, .mv (.t 102), none, []⟩]))))))) (.seq (.reg false [⟨some 103, .call 15 [], none, []⟩, ⟨some 2, .mv (.t 103), none, []⟩]) (.ret))))))), [.t 2]⟩
theorem h_nobody : AX.compFn Tryz.prog 5 = some c_nobody := by kernel_rfl

def ROW2 : Blk := .row 49 [.nilp, .ptr 0 0]
theorem w_nobody (n : Int) : ACall Tryz.prog GT 5 [.int .i64 n] ⟨[], []⟩ fun r _ => r = .bool true := by
  refine acall_of mixedT h_nobody (by simp [c_nobody]) ?_
  dsimp only [c_nobody]
  have hO : ODD = .cells 79 [.str [], .str [], .int .i64 0, .nilm, .str [], .int .i64 0] := rfl
  have oT := fun h hb => o_Tick n (h := h) (i := 0) hb
  rw [hO] at oT
  (refine AX.runM True.intro ?_)
  refine use (n_Tick n _) ?_
  (refine AX.runM True.intro ?_)
  refine use (oT _ rfl) ?_
  (refine AX.runM True.intro ?_)
  have ew0 : IntKind.i64.wrap ((0 : Int) + 1) = 1 := by decide
  have ew1 : IntKind.i64.wrap ((1 : Int) + 1) = 2 := by decide
  have en1 : Int.toNat 1 = 1 := rfl
  have z0 : (((0 : Nat) : Int) != 0) = false := by decide
  have lt0 : (0 : Int) < ((2 : Nat) : Int) := by decide
  have lt1 : (1 : Int) < ((2 : Nat) : Int) := by decide
  have lt2 : ¬ (2 : Int) < ((2 : Nat) : Int) := by decide
  have le1 : (0 : Int) ≤ 1 := by decide
  refine awp_loop (fun mm ts h => h.b[0]? = some ODD ∧ h.b[1]? = some ROW2 ∧ 2 ≤ h.b.length ∧ ts 0 = .int .i64 n ∧ ts 25 = .bs 1 1 2 ∧ ts 26 = .int .i64 ((2 : Nat) : Int) ∧ ((mm = 2 ∧ ts 27 = .int .i64 0) ∨ (mm = 1 ∧ ts 27 = .int .i64 1) ∨ (mm = 0 ∧ ts 27 = .int .i64 2))) 2 ?_ ?_
  · exact ⟨rfl, rfl, by simp, by (exact AX.ev0 True.intro), by (exact AX.ev0 True.intro), by (exact AX.ev0 True.intro), .inl ⟨rfl, by (exact AX.ev0 True.intro)⟩⟩
  rintro mm ts ⟨hb, ht⟩ ⟨g0, g1, g2, t0, t25, t26, hj⟩
  dsimp only at g0 g1 g2
  have g0' : ∀ y, (hb ++ [y])[0]? = some ODD := fun y => by rw [List.getElem?_append_left (by omega)]; exact g0
  have g1' : ∀ y, (hb ++ [y])[1]? = some ROW2 := fun y => by rw [List.getElem?_append_left (by omega)]; exact g1
  have g0'' : ∀ y z, (hb ++ [y] ++ [z])[0]? = some ODD := fun y z => by rw [List.getElem?_append_left (by simp)]; exact g0' y
  have g1'' : ∀ y z, (hb ++ [y] ++ [z])[1]? = some ROW2 := fun y z => by rw [List.getElem?_append_left (by simp; omega)]; exact g1' y
  have g1r : hb[1]? = some (.row 49 [.nilp, .ptr 0 0]) := g1
  rcases hj with ⟨rfl, t27⟩ | ⟨rfl, t27⟩ | ⟨rfl, t27⟩
  rotate_left 2
  · (refine AX.runM (And.intro t0 (And.intro t25 (And.intro t26 (And.intro t27 lt2)))) ?_)
    refine use (awake34 _) ?_
    (refine AX.runM True.intro ?_)
    exact ⟨_, le_refl _, rfl⟩
  rotate_left
  · (refine AX.runM (And.intro t0 (And.intro t25 (And.intro t26 (And.intro t27 (And.intro g1r (And.intro lt1 (And.intro le1 en1))))))) ?_)
    refine use (o_Holder (h := ⟨hb, ht⟩) (i := 0) g0) ?_
    (refine AX.runM t0 ?_)
    refine use (o_Read (h := ⟨hb, ht⟩) (i := 0) g0) ?_
    (refine AX.runM t0 ?_)
    refine use (o_At n (i := 0) (g0' _)) ?_
    (refine AX.runM t0 ?_)
    refine use (o_Raw n (i := 0) (g0'' _ _)) ?_
    (refine AX.runM t0 ?_)
    refine use (o_Lock [97] 1 (i := 0) (g0'' _ _)) ?_
    (refine AX.runM t0 ?_)
    refine use (o_Unlock [97] (i := 0) (g0'' _ _)) ?_
    (refine AX.runM t0 ?_)
    refine use (o_Break (i := 0) (g0'' _ _)) ?_
    (refine AX.runM t0 ?_)
    refine use (o_Write [97] (i := 0) (g0'' _ _)) ?_
    (refine AX.runM t0 ?_)
    refine use (o_Serials (i := 0) (g0'' _ _)) ?_
    (refine AX.runM (And.intro t0 z0) ?_)
    refine use (o_Rekey [97] [107] (i := 0) (g0'' _ _)) ?_
    (refine AX.runM (And.intro t0 (And.intro t25 (And.intro t26 (And.intro t27 ew1)))) ?_)
    exact ⟨0, by omega, g0'' _ _, g1'' _ _, by simp, by (exact AX.ev0 t0), by (exact AX.ev0 t25), by (exact AX.ev0 t26), .inr (.inr ⟨rfl, by (exact AX.ev0 ew1)⟩)⟩
  · (refine AX.runM (And.intro t0 (And.intro t25 (And.intro t26 (And.intro t27 (And.intro g1r lt0))))) ?_)
    refine use (n_Holder _) ?_
    (refine AX.runM t0 ?_)
    refine use (n_Read _) ?_
    (refine AX.runM t0 ?_)
    refine use (n_At n _) ?_
    (refine AX.runM t0 ?_)
    refine use (n_Raw n _) ?_
    (refine AX.runM t0 ?_)
    refine use (n_Lock [97] 1 _) ?_
    (refine AX.runM t0 ?_)
    refine use (n_Unlock [97] _) ?_
    (refine AX.runM t0 ?_)
    refine use (n_Break _) ?_
    (refine AX.runM t0 ?_)
    refine use (n_Write [97] _) ?_
    (refine AX.runM t0 ?_)
    refine use (n_Serials _) ?_
    (refine AX.runM (And.intro t0 z0) ?_)
    refine use (n_Rekey [97] [107] _) ?_
    (refine AX.runM (And.intro t0 (And.intro t25 (And.intro t26 (And.intro t27 ew0)))) ?_)
    exact ⟨1, by omega, g0'' _ _, g1'' _ _, by simp, by (exact AX.ev0 t0), by (exact AX.ev0 t25), by (exact AX.ev0 t26), .inr (.inl ⟨rfl, by (exact AX.ev0 ew0)⟩)⟩
theorem w_nobodyX (n : Int) (k : (Lit.int .i64 n).wf = true) : ACall Tryz.prog GT 5 [.int .i64 n] ⟨[], []⟩ fun r _ => r = .bool true := w_nobody n
end AX
end Go.Proofs.YtnjkemakcejceaaGreatDoor
