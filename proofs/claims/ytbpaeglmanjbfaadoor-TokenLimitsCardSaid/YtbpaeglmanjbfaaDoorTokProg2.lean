/- The scanner's block; the walks of token: newScanner, more, fail. -/
import Derived.Test.YtbpaeglmanjbfaaDoorTokProg1
import Derived.Test.YtbpaeglmanjbfaaDoorTokList
namespace Go.Proofs.YtbpaeglmanjbfaaDoor
open Go.RowKit
set_option linter.unusedSimpArgs false
set_option linter.unusedVariables false
def scCells (s : ByteArray) (k o kd p : Int) : Array Value := #[.string s, .int .i64 k] ++ Tok.tabC Tok.clsN ++ #[.int .i64 o, .int .i64 kd, .int .i64 p, .string ⟨#[]⟩]
/-- Block b holds a scanner of s at k; o: where the outermost string begins, or -1; the error kd at p. -/
def Sc (w : World) (b : Nat) (s : ByteArray) (k o kd p : Int) : Prop := w.heap[b]? = some (.cells (scCells s k o kd p) 45 (0, 0))
theorem scCells_size (s : ByteArray) (k o kd p : Int) : (scCells s k o kd p).size = 262 := by unfold scCells; simp [Tok.tabC_size]
theorem sc_toList (s : ByteArray) (k o kd p : Int) : (scCells s k o kd p).toList = .string s :: .int .i64 k :: ((Tok.tabC Tok.clsN).toList ++ [.int .i64 o, .int .i64 kd, .int .i64 p, .string ⟨#[]⟩]) := by unfold scCells; simp
theorem sc_get (s : ByteArray) (k o kd p : Int) : (scCells s k o kd p)[0]? = some (.string s) ∧ (scCells s k o kd p)[1]? = some (.int .i64 k) ∧ (∀ n, n < 256 → (scCells s k o kd p)[2 + n]? = some (.int .u8 (Tok.clsN n : Int))) ∧ (scCells s k o kd p)[258]? = some (.int .i64 o) ∧ (scCells s k o kd p)[259]? = some (.int .i64 kd) ∧ (scCells s k o kd p)[260]? = some (.int .i64 p) ∧ (scCells s k o kd p)[261]? = some (.string ⟨#[]⟩) := by
  have hl : (Tok.tabC Tok.clsN).toList.length = 256 := by rw [Array.length_toList, Tok.tabC_size]
  simp only [← Array.getElem?_toList, sc_toList]
  refine ⟨rfl, rfl, fun n hn => ?_, ?_, ?_, ?_, ?_⟩
  · rw [show 2 + n = n + 2 by omega, List.getElem?_cons_succ, List.getElem?_cons_succ, List.getElem?_append_left (by omega), Array.getElem?_toList]
    exact Tok.tabC_get _ n hn
  all_goals
    rw [List.getElem?_cons_succ, List.getElem?_cons_succ, List.getElem?_append_right (by omega), hl]; rfl
namespace Sc
variable {w : World} {b : Nat} {s : ByteArray} {k o kd p : Int}
theorem lt (h : Sc w b s k o kd p) : b < w.heap.size := (Array.getElem?_eq_some_iff.1 h).1
theorem free (h : Sc w b s k o kd p) (i : Nat) : w.frozen? ⟨b, i, none⟩ = false := frozen_of_row _ _ _ _ _ h
theorem facts (h : Sc w b s k o kd p) : w.cell? ⟨b, 0, none⟩ = some (.string s) ∧ w.cell? ⟨b, 1, none⟩ = some (.int .i64 k) ∧ w.cell? ⟨b, 258, none⟩ = some (.int .i64 o) ∧ w.cell? ⟨b, 259, none⟩ = some (.int .i64 kd) ∧ w.cell? ⟨b, 260, none⟩ = some (.int .i64 p) ∧ w.cell? ⟨b, 261, none⟩ = some (.string ⟨#[]⟩) := by
  obtain ⟨h0, h1, _, h3, h4, h5, h6⟩ := sc_get s k o kd p
  exact ⟨(cell_of_row _ _ _ _ _ _ h).trans h0, (cell_of_row _ _ _ _ _ _ h).trans h1, (cell_of_row _ _ _ _ _ _ h).trans h3, (cell_of_row _ _ _ _ _ _ h).trans h4, (cell_of_row _ _ _ _ _ _ h).trans h5, (cell_of_row _ _ _ _ _ _ h).trans h6⟩
theorem cls (h : Sc w b s k o kd p) (n : Nat) (hn : n < 256) : w.cell? ⟨b, 2 + n, none⟩ = some (.int .u8 (Tok.clsN n : Int)) := (cell_of_row _ _ _ _ _ _ h).trans ((sc_get s k o kd p).2.2.1 n hn)
theorem setAt (h : Sc w b s k o kd p) (k' : Int) : Sc (w.setCell ⟨b, 1, none⟩ (.int .i64 k')) b s k' o kd p := by
  have := heap_setCell_same w b 1 _ _ (.int .i64 k') h
  refine this.trans (congrArg (fun c => some (Obj.cells c 45 (0, 0))) (Array.toList_inj.1 ?_))
  rw [Array.toList_setIfInBounds, sc_toList, sc_toList]; rfl
theorem setOuter (h : Sc w b s k o kd p) (o' : Int) : Sc (w.setCell ⟨b, 258, none⟩ (.int .i64 o')) b s k o' kd p := by
  have := heap_setCell_same w b 258 _ _ (.int .i64 o') h
  refine this.trans (congrArg (fun c => some (Obj.cells c 45 (0, 0))) (Array.toList_inj.1 ?_))
  have hl : (Tok.tabC Tok.clsN).toList.length = 256 := by rw [Array.length_toList, Tok.tabC_size]
  rw [Array.toList_setIfInBounds, sc_toList, sc_toList, List.set_cons_succ, List.set_cons_succ, List.set_append_right _ _ (by omega), hl]; rfl
theorem setBad (h : Sc w b s k o kd p) (kd' p' : Int) : Sc (((w.setCell ⟨b, 259, none⟩ (.int .i64 kd')).setCell ⟨b, 260, none⟩ (.int .i64 p')).setCell ⟨b, 261, none⟩ (.string ⟨#[]⟩)) b s k o kd' p' := by
  have hl : (Tok.tabC Tok.clsN).toList.length = 256 := by rw [Array.length_toList, Tok.tabC_size]
  have h1 := heap_setCell_same w b 259 _ _ (.int .i64 kd') h
  have h2 := heap_setCell_same _ b 260 _ _ (.int .i64 p') h1
  have h3 := heap_setCell_same _ b 261 _ _ (.string ⟨#[]⟩) h2
  refine h3.trans (congrArg (fun c => some (Obj.cells c 45 (0, 0))) (Array.toList_inj.1 ?_))
  rw [Array.toList_setIfInBounds, Array.toList_setIfInBounds, Array.toList_setIfInBounds, sc_toList, sc_toList]
  simp only [List.set_cons_succ]
  rw [List.set_append_right _ _ (by omega), List.set_append_right _ _ (by omega), List.set_append_right _ _ (by omega), hl]; rfl
theorem drewN (h : Sc w b s k o kd p) (n : Nat) : Sc (w.drewN n) b s k o kd p := h
theorem below {w' : World} (h : Sc w b s k o kd p) (hb : Below w.heap.size w w') : Sc w' b s k o kd p := (hb.block b h.lt).trans h
end Sc
def NewEnd (s : ByteArray) (w : World) (e : Ending) (w' : World) : Prop := ∃ b, e = .returned (.pointer (some ⟨b, 0, none⟩)) ∧ Sc w' b s 0 (-1) 0 0 ∧ w.heap.size ≤ b ∧ Below w.heap.size w w'
theorem fold_sc (s : ByteArray) : (Array.foldl (fun cs (x : Value × Nat) => cs.setIfInBounds (2 + x.snd) x.fst) (Tryd.zeroCells45.setIfInBounds 0 (.string s)) (Tok.tabC Tok.clsN).zipIdx 0 256).setIfInBounds 258 (.int .i64 (-1)) = scCells s 0 (-1) 0 0 := by kernel_rfl
theorem fold_size (s : ByteArray) : (Array.foldl (fun cs (x : Value × Nat) => cs.setIfInBounds (2 + x.snd) x.fst) (Tryd.zeroCells45.setIfInBounds 0 (.string s)) (Tok.tabC Tok.clsN).zipIdx 0 256).size = 262 := by
  have := congrArg Array.size (fold_sc s)
  rw [Array.size_setIfInBounds, scCells_size] at this
  exact this
set_option maxHeartbeats 1000000 in
theorem newScanner_any (s : ByteArray) (w : World) :
    Calls Tryd.prog 23 #[.string s] w (NewEnd s w) := by
  go_enter Tryd.func23, Tryd.ntmps23
  go_wp2_with fail
  (with_reducible refine (classes_any _).mono ?_); rintro e w1 ⟨rfl, b1⟩
  have B1 := kept b1; clear b1
  have hf := fold_sc s
  have hs := fold_size s
  have hz := Tok.tabC_size Tok.clsN
  obtain ⟨C, hC⟩ : ∃ C, C = Tok.tabC Tok.clsN := ⟨_, rfl⟩
  rw [← hC] at hf hs hz ⊢
  obtain ⟨D, hD⟩ : ∃ D, D = scCells s 0 (-1) 0 0 := ⟨_, rfl⟩
  rw [← hD] at hf
  have HC := kept hC; have HD := kept hD; clear hC hD
  go_wp2
  go_ret
  exact ⟨w1.heap.size, rfl, by unfold Sc; rw [heap_alloc_new, HD.out], B1.out.size, B1.out.alloc B1.out.size _⟩

theorem grown_refl (w : World) (r : Option Nat) : w.grownBy w r := ⟨rfl, rfl, rfl, Nat.le_refl _, fun _ _ _ => rfl⟩
theorem grown_trans {a b c : World} {r : Option Nat} (h : a.grownBy b r) (k : b.grownBy c r) : a.grownBy c r :=
  ⟨k.os.trans h.os, k.tape.trans h.tape, k.output.trans h.output, Nat.le_trans h.size k.size, fun i hi hne => (k.block i (Nat.lt_of_lt_of_le hi h.size) hne).trans (h.block i hi hne)⟩
theorem grown_set (w : World) (b i : Nat) (v : Value) : w.grownBy (w.setCell ⟨b, i, none⟩ v) (some b) :=
  ⟨rfl, rfl, rfl, by simp [World.setCell], fun k _ hne => heap_setCell_other w ⟨b, i, none⟩ k v (fun h => hne (by rw [h]))⟩
theorem grown_below {w w' : World} (r : Option Nat) (h : Below w.heap.size w w') : w.grownBy w' r := ⟨h.os, h.tape, h.output, h.size, fun k hk _ => h.block k hk⟩
theorem grown_drewN (w : World) (n : Nat) (r : Option Nat) : w.grownBy (w.drewN n) r := grown_below r (below_drewN (Below.refl _ _) n)

set_option maxHeartbeats 400000 in
theorem more_any (w : World) (b : Nat) (s : ByteArray) (k : Nat) (o kd p : Int) (h : Sc w b s k o kd p) :
    Calls Tryd.prog 25 #[.pointer (some ⟨b, 0, none⟩)] w fun e w' => e = .returned (.bool (decide (k < s.size))) ∧ ∃ n, w' = w.drewN n := by
  obtain ⟨c0, c1, c2, c3, c4, c5⟩ := h.facts
  clear h
  go_enter Tryd.func25, Tryd.ntmps25
  go_wp2
  go_quiet (fail)
  go_wp2
  go_ret
  exact ⟨rfl, _, rfl⟩
set_option maxHeartbeats 400000 in
theorem fail_any (w : World) (b : Nat) (s : ByteArray) (k o kd p kd' p' : Int) (h : Sc w b s k o kd p) :
    Calls Tryd.prog 50 #[.pointer (some ⟨b, 0, none⟩), .int .i64 kd', .int .i64 p'] w fun e w' => e = .returned (.bool false) ∧ Sc w' b s k o kd' p' ∧ w.grownBy w' (some b) := by
  obtain ⟨c0, c1, c2, c3, c4, c5⟩ := h.facts
  have f3 := h.free 259; have f4 := h.free 260; have f5 := h.free 261
  have H := kept h; clear h
  go_enter Tryd.func50, Tryd.ntmps50
  go_wp2
  go_ret
  exact ⟨rfl, H.out.setBad kd' p', grown_trans (grown_trans (grown_set _ _ _ _) (grown_set _ _ _ _)) (grown_set _ _ _ _)⟩
end Go.Proofs.YtbpaeglmanjbfaaDoor
