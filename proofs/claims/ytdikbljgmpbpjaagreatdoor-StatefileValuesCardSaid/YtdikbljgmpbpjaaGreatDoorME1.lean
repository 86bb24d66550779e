/- Part of what the proof needs. -/
import Derived.Test.YtdikbljgmpbpjaaGreatDoorMA0
import Derived.Test.YtdikbljgmpbpjaaGreatDoorMB0
import Derived.Test.YtdikbljgmpbpjaaGreatDoorMC0
import Derived.Test.YtdikbljgmpbpjaaGreatDoorME0
import Derived.Shelf.Unicode.DecodeSlow
import Derived.Test.YtdikbljgmpbpjaaGreatDoorCards
import Derived.Test.YtdikbljgmpbpjaaGreatDoorTie
import Derived.ProofKit
import Derived.OpenShut
import Derived.ShutString
import Derived.ChangeOld
import Derived.Below
import Derived.Deep.DeepHandedRow
import Derived.Lib.LaidU8
import Derived.MakeChecks
namespace Go.Proofs.YtdikbljgmpbpjaaGreatDoor
open Go.RowKit
set_option linter.unusedSimpArgs false
set_option linter.unusedVariables false
set_option maxHeartbeats 4000000
namespace AX
def c_wnum : AX.AFn := ⟨10, .reg true [⟨some 4, .mv (.t 0), none, []⟩, ⟨some 5, .nilck (.t 4), none, [0]⟩, ⟨some 6, .faddr 0 (.t 5), none, [1]⟩, ⟨some 7, .mv (.t 1), none, []⟩, ⟨some 8, .call 140 [.c (.str []), .t 7], none, [3]⟩, ⟨some 9, .call 112 [.t 6, .t 8], none, [2, 4, 4]⟩], []⟩
theorem h_wnum : AX.compFn Tryz.prog 107 = some c_wnum := by kernel_rfl
def c_wtext : AX.AFn := ⟨13, .seq (.reg false [⟨some 4, .mv (.t 0), none, []⟩, ⟨some 5, .mv (.t 1), none, []⟩, ⟨some 6, .len true (.t 5), none, []⟩, ⟨some 7, .call 107 [.t 4, .t 6], none, []⟩]) (.reg false [⟨some 8, .mv (.t 0), none, []⟩, ⟨some 9, .nilck (.t 8), none, []⟩, ⟨some 10, .faddr 0 (.t 9), none, []⟩, ⟨some 11, .mv (.t 1), none, []⟩, ⟨some 12, .call 112 [.t 10, .t 11], none, []⟩]), []⟩
theorem h_wtext : AX.compFn Tryz.prog 108 = some c_wtext := by kernel_rfl
def c_wvalue : AX.AFn := ⟨55, .seq (.reg false [⟨some 3, .box 43 (.t 1), none, []⟩]) (.seq (.reg false [⟨some 6, .mv (.t 0), none, []⟩, ⟨some 7, .faddr 0 (.t 3), none, []⟩, ⟨some 8, .load false 1 (.t 7), none, []⟩, ⟨some 9, .call 107 [.t 6, .t 8], none, []⟩]) (.seq (.reg false [⟨some 10, .faddr 0 (.t 3), none, []⟩, ⟨some 11, .load false 1 (.t 10), none, []⟩]) (.block 0 (.seq (.seq (.reg false [⟨some 13, .bin .eql (.t 11) (.c (.int .i64 1)), none, []⟩, ⟨some 12, .mv (.t 13), none, []⟩]) (.cond (.t 12) (.skip) (.reg false [⟨some 14, .bin .eql (.t 11) (.c (.int .i64 2)), none, []⟩, ⟨some 12, .mv (.t 14), none, []⟩]))) (.cond (.t 12) (.reg false [⟨some 15, .mv (.t 0), none, []⟩, ⟨some 16, .faddr 1 (.t 3), none, []⟩, ⟨some 17, .load false 1 (.t 16), none, []⟩, ⟨some 18, .call 107 [.t 15, .t 17], none, []⟩]) (.seq (.reg false [⟨some 20, .bin .eql (.t 11) (.c (.int .i64 3)), none, []⟩, ⟨some 19, .mv (.t 20), none, []⟩]) (.cond (.t 19) (.reg false [⟨some 21, .mv (.t 0), none, []⟩, ⟨some 22, .faddr 2 (.t 3), none, []⟩, ⟨some 23, .load false 1 (.t 22), none, []⟩, ⟨some 24, .call 108 [.t 21, .t 23], none, []⟩]) (.seq (.seq (.reg false [⟨some 26, .bin .eql (.t 11) (.c (.int .i64 4)), none, []⟩, ⟨some 25, .mv (.t 26), none, []⟩]) (.cond (.t 25) (.skip) (.reg false [⟨some 27, .bin .eql (.t 11) (.c (.int .i64 5)), none, []⟩, ⟨some 25, .mv (.t 27), none, []⟩]))) (.cond (.t 25) (.seq (.reg false [⟨some 28, .mv (.t 0), none, []⟩, ⟨some 29, .faddr 3 (.t 3), none, []⟩, ⟨some 30, .load false 1 (.t 29), none, []⟩, ⟨some 31, .len false (.t 30), none, []⟩, ⟨some 32, .call 107 [.t 28, .t 31], none, []⟩]) (.seq (.reg false [⟨some 33, .faddr 3 (.t 3), none, []⟩, ⟨some 34, .load false 1 (.t 33), none, []⟩, ⟨some 35, .len false (.t 34), none, []⟩, ⟨some 36, .mv (.c (.int .i64 0)), none, []⟩]) (.block 1 (.loop (.seq (.reg false [⟨some 37, .bin .lss (.t 36) (.t 35), none, []⟩]) (.seq (.cond (.t 37) (.skip) (.exit 1)) (.seq (.block 2 (.seq (.reg false [⟨some 38, .mv (.t 36), none, []⟩, ⟨some 39, .iaddr 5 (.t 34) (.t 36), none, []⟩, ⟨some 40, .load true 5 (.t 39), none, []⟩, ⟨some 5, .alloc 43 [.int .i64 0, .int .i64 0, .str [], .sl 0 .nil [], .sl 0 .nil []], none, []⟩, ⟨some 4, .mv (.t 38), none, []⟩, ⟨none, .store 5 (.t 5) (.t 40), none, []⟩]) (.seq (.seq (.reg false [⟨some 41, .faddr 0 (.t 3), none, []⟩, ⟨some 42, .load false 1 (.t 41), none, []⟩, ⟨some 43, .bin .eql (.t 42) (.c (.int .i64 5)), none, []⟩]) (.cond (.t 43) (.reg false [⟨some 44, .mv (.t 0), none, []⟩, ⟨some 45, .faddr 4 (.t 3), none, []⟩, ⟨some 46, .load false 1 (.t 45), none, []⟩, ⟨some 47, .mv (.t 4), none, []⟩, ⟨some 48, .iaddr 1 (.t 46) (.t 47), none, []⟩, ⟨some 49, .load false 1 (.t 48), none, []⟩, ⟨some 50, .call 108 [.t 44, .t 49], none, []⟩]) (.skip))) (.reg false [⟨some 51, .mv (.t 0), none, []⟩, ⟨some 52, .load true 5 (.t 5), none, []⟩, ⟨some 53, .call 56 [.t 51, .t 52], none, []⟩])))) (.reg false [⟨some 54, .bin .add (.t 36) (.c (.int .i64 1)), none, []⟩, ⟨some 36, .mv (.t 54), none, []⟩])))))))) (.skip)))))))))), []⟩
theorem h_wvalue : AX.compFn Tryz.prog 56 = some c_wvalue := by kernel_rfl
def c_AppendValue : AX.AFn := ⟨17, .seq (.reg false [⟨some 3, .box 43 (.t 1), none, []⟩, ⟨some 4, .mv (.c (.str [])), none, []⟩]) (.seq (.reg false [⟨some 6, .build [.nilp, .sl 0 .nil [], .int .i64 0] [], none, []⟩, ⟨some 7, .box 99 (.t 6), none, []⟩, ⟨some 5, .mv (.t 7), none, []⟩]) (.seq (.reg false [⟨some 8, .mv (.t 5), none, []⟩, ⟨some 9, .load true 5 (.t 3), none, []⟩, ⟨some 10, .call 56 [.t 8, .t 9], none, []⟩]) (.seq (.reg false [⟨some 11, .mv (.t 0), none, []⟩, ⟨some 12, .mv (.t 5), none, []⟩, ⟨some 13, .nilck (.t 12), none, []⟩, ⟨some 14, .faddr 0 (.t 13), none, []⟩, ⟨some 15, .call 57 [.t 14], none, []⟩, ⟨some 16, .bin .add (.t 11) (.t 15), none, []⟩, ⟨some 4, .mv (.t 16), none, []⟩]) (.ret)))), [.t 4]⟩
theorem h_AppendValue : AX.compFn Tryz.prog 23 = some c_AppendValue := by kernel_rfl

/-- What a writer's call leaves: the bytes, and all other boxes. -/
def WP (i : Nat) (ver : Int) (l : List UInt8) (h h' : Hp) : Prop := Wt h' i ver l ∧ h'.t = h.t ∧ ∀ j x, j ≠ i → h.b[j]? = some x → h'.b[j]? = some x
theorem WP.of {h : Hp} {i : Nat} {ver : Int} {l l' : List UInt8} (hw : Wt h i ver l) : WP i ver l' h ⟨h.b.set i (wtr ver l'), h.t⟩ := by
  refine ⟨.inl ?_, rfl, fun j x hj hx => ?_⟩
  · show (List.set _ i _)[i]? = _
    rw [List.getElem?_set, if_pos rfl, if_pos hw.lt]
  · show (List.set _ i _)[j]? = _
    rw [List.getElem?_set, if_neg (Ne.symm hj)]; exact hx
theorem WP.tr {i : Nat} {ver : Int} {l l' : List UInt8} {h h' h'' : Hp} (a : WP i ver l h h') (b : WP i ver l' h' h'') : WP i ver l' h h'' :=
  ⟨b.1, b.2.1.trans a.2.1, fun j x hj hx => b.2.2 j x hj (a.2.2 j x hj hx)⟩
theorem get_app5 {l m : List Blk} {i : Nat} {x : Blk} (h : l[i]? = some x) : (l ++ m)[i]? = some x := by
  rw [List.getElem?_append_left (List.getElem?_eq_some_iff.1 h).1]; exact h
theorem set_new5 (l : List Blk) (x y : Blk) : (l ++ [x]).set l.length y = l ++ [y] := by
  rw [List.set_append_right _ _ (Nat.le_refl _)]; simp
theorem Wt.app {b : List Blk} {t : _} {i : Nat} {ver : Int} {l : List UInt8} (hw : Wt ⟨b, t⟩ i ver l) (m : List Blk) : Wt ⟨b ++ m, t⟩ i ver l := by
  rcases hw with h | ⟨h0, h⟩
  · exact .inl (get_app5 h)
  · exact .inr ⟨h0, get_app5 h⟩
theorem WP.app {b : List Blk} {t : _} {m : List Blk} {h' : Hp} {i : Nat} {ver : Int} {l : List UInt8} (hp : WP i ver l ⟨b ++ m, t⟩ h') : WP i ver l ⟨b, t⟩ h' :=
  ⟨hp.1, hp.2.1, fun j x hj hx => hp.2.2 j x hj (get_app5 hx)⟩
theorem num_len (n : Int) : (Wire.num n).length ≤ 10 := (Wire.encF_len 9 (Wire.zig n)).2
theorem a_wnum {h : Hp} {i : Nat} {ver : Int} {l : List UInt8} (hw : Wt h i ver l) (n : Int) (hlen : l.length + 10 ≤ 1000000000) (h0 : -9223372036854775808 ≤ n) (h1 : n ≤ 9223372036854775807) :
    ACall Tryz.prog GT 107 [.ptr i 0, .int .i64 n] h fun _ h' => WP i ver (l ++ Wire.num n) h h' := by
  have hn := num_len n
  refine acall_of mixedT h_wnum (by simp [c_wnum]) ?_
  dsimp only [c_wnum]
  refine awp_last _ _ ⟨h.b.set i (wtr ver (l ++ Wire.num n)), h.t⟩ (.tup [.int .i64 (Wire.num n).length, .nili]) (List.dropLast_concat_getLast (l := _ :: _) (by simp)).symm (by decide) ?_
  dsimp only [List.dropLast, List.getLast]
  (refine AX.go0 True.intro ?_)
  refine gq_call (vs := [.str [], .int .i64 n]) (r := .str (Wire.num n)) (by (exact AX.ev0 True.intro)) ?_ ?_
  · refine (a_appendNumber [] n (by simp) h0 h1 _).mono ?_
    rintro v h' ⟨rfl, rfl⟩
    exact ⟨by simp, rfl⟩
  refine gq_nil ⟨?_, ?_⟩
  · show ACall _ _ _ _ _ _
    simp only [put_app, put_none, init_app, evX_t, evX_c, resA_nil, resA_t, resA_c, tupA_0, tupA_1, tupA_2, astep, bop, uop, loadA, storeA, appA, ssliceA, eqA, eqCells, fillA, rowsA, setCells, A.cells, A.one, A.data, optP_some, List.all_cons, List.all_nil, Bool.and_true, Bool.true_and, Option.map_some, Option.map_none, Option.bind_some, Option.bind_none, Option.getD_some, Option.getD_none, List.map_cons, List.map_nil, List.getD_cons_zero, List.getD_cons_succ, List.getElem?_cons_zero, List.getElem?_cons_succ, List.length_cons, List.length_nil, List.nil_append, List.cons_append, List.append_nil, List.set_cons_zero, List.set_cons_succ, List.drop_zero, List.drop_succ_cons, List.take_succ_cons, List.take_zero, List.take_nil, List.length_append, List.length_set, Nat.reduceAdd, Nat.reduceSub, Nat.reduceMul, Nat.reduceLeDiff, Nat.reduceEqDiff, Nat.reduceBEq, Int.toNat_natCast, Int.natCast_nonneg, if_true, if_false, reduceIte, ite_true, ite_false, true_and, and_true, ne_eq, not_true_eq_false, not_false_eq_true, Bool.false_eq_true, reduceCtorEq, and_self, Nat.zero_add, Nat.add_zero, Nat.le_refl, Bool.not_true, Bool.not_false, decide_true, decide_false]
    exact a_write hw _ (by omega)
  · exact go_fn rfl ⟨_, le_refl _, WP.of hw⟩
theorem a_wtext {h : Hp} {i : Nat} {ver : Int} {l : List UInt8} (hw : Wt h i ver l) (s : List UInt8) (hlen : l.length + s.length + 10 ≤ 1000000000) :
    ACall Tryz.prog GT 108 [.ptr i 0, .str s] h fun _ h' => WP i ver (l ++ Wire.strE s) h h' := by
  have hn := num_len s.length
  refine acall_of mixedT h_wtext (by simp [c_wtext]) ?_
  dsimp only [c_wtext]
  (refine AX.go0 True.intro ?_)
  (refine AX.gc0 True.intro ?_)
  refine (a_wnum hw s.length (by omega) (by omega) (by omega)).mono ?_
  intro v h' hp
  (refine AX.go0 True.intro ?_)
  (refine AX.gc0 True.intro ?_)
  refine (a_write hp.1 s (by rw [List.length_append]; omega)).mono ?_
  rintro v h' ⟨rfl, rfl⟩
  refine go_nil (go_fn rfl ⟨_, le_refl _, ?_⟩)
  rw [Wire.strE, ← List.append_assoc]
  exact hp.tr (WP.of hp.1)
theorem encs_step (m : Bool) (is : List V) (ks : List (List UInt8)) (j : Nat) (hj : j < is.length) : (Val.encs m (is.take j) ks).length + (Val.keyE m (ks.drop j)).length + (Val.enc is[j]).length ≤ (Val.encs m is ks).length := by
  have key : ∀ d, j + 1 + d ≤ is.length → (Val.encs m (is.take (j + 1)) ks).length ≤ (Val.encs m (is.take (j + 1 + d)) ks).length := by
    intro d
    induction d with
    | zero => intro _; exact Nat.le_refl _
    | succ d ihd =>
      intro hd
      have h1 := Val.encs_take m is ks (j + 1 + d) (by omega)
      have h2 := ihd (by omega)
      have h3 : (Val.encs m (is.take (j + 1 + (d + 1))) ks).length = _ := congrArg List.length h1
      rw [List.length_append] at h3
      omega
  have h1 := Val.encs_take m is ks j hj
  have h2 := key (is.length - (j + 1)) (by omega)
  rw [show j + 1 + (is.length - (j + 1)) = is.length by omega, List.take_length, h1, List.length_append, List.length_append] at h2
  omega
theorem t_value : ∀ (v : V) (i : Nat) (ver : Int) (l : List UInt8) (h : Hp), Wt h i ver l → (∃ lv b, (Val.chk v lv b).1 = 0) → l.length + (Val.enc v).length + 10 ≤ 1000000000 → v.lens → ACall Tryz.prog GT 56 [.ptr i 0, v.A] h fun _ h' => WP i ver (l ++ Val.enc v) h h' := by
  refine V.induct fun k n s is ks ih => ?_
  rintro i ver l ⟨hb, ht⟩ hw ⟨lv, b, hchk⟩ hlen hlens
  refine acall_of mixedT h_wvalue (by simp [c_wvalue]) ?_
  dsimp only [c_wvalue]
  obtain ⟨hil, hkl, _, hmem⟩ := V.lens_mk hlens
  obtain ⟨_, _, hz, hcs⟩ := Val.chk_parts hchk
  obtain ⟨hsh, hn2, hts, hks⟩ := Val.shaped_of hz
  have hs := Val.text_len hts
  have hkk := Val.keys_len ks none hks
  unfold Val.shapedB at hsh
  simp only [Bool.and_eq_true, Bool.or_eq_true, decide_eq_true_eq, beq_iff_eq] at hsh
  obtain ⟨⟨⟨⟨⟨hk0, hk6⟩, hnn⟩, _⟩, _⟩, hkn⟩ := hsh
  have hne : ¬ (i = hb.length) := by have := hw.lt; simp at this; omega
  have hE : Val.enc (.mk k n s is ks) = Wire.num k ++ (if k = 1 ∨ k = 2 then Wire.num n else if k = 3 then Wire.strE s else if k = 4 ∨ k = 5 then Wire.num is.length ++ Val.encs (k == 5) is ks else []) := by rw [Val.enc]
  rw [hE] at hlen ⊢
  simp only [List.length_append] at hlen
  (refine AX.goV True.intro ?_)
  (refine AX.gcV True.intro ?_)
  refine (a_wnum (hw.app _) k (by omega) (by omega) (by omega)).mono ?_
  intro v0 h1 hp1
  have g1 : h1.b[hb.length]? = some (.cells 43 (V.mk k n s is ks).cells) := hp1.2.2 _ _ (Ne.symm hne) List.getElem?_concat_length
  simp only [V.cells] at g1
  have hlk := num_len k
  by_cases hk12 : k = 1 ∨ k = 2
  · rw [if_pos hk12] at hlen ⊢
    have hn : -9223372036854775808 ≤ n ∧ n ≤ 9223372036854775807 := by
      rcases hk12 with rfl | rfl
      · rcases hnn with (h | h) | h
        · exact absurd h (by decide)
        · omega
        · omega
      · have := hn2 rfl; omega
    rcases hk12 with rfl | rfl
    all_goals
      (refine AX.go0 g1 ?_)
      (refine AX.gc0 g1 ?_)
      refine (a_wnum hp1.1 n (by rw [List.length_append]; omega) (by omega) (by omega)).mono ?_
      intro v2 h2 hp2
      (refine AX.go0 g1 ?_)
      refine ⟨_, le_refl _, ?_⟩
      rw [← List.append_assoc]
      exact (hp1.tr hp2).app
  rw [if_neg hk12] at hlen ⊢
  have e1 : (k == 1) = false := by simp; omega
  have e2 : (k == 2) = false := by simp; omega
  by_cases hk3 : k = 3
  · rw [if_pos hk3] at hlen ⊢
    subst hk3
    (refine AX.go0 g1 ?_)
    (refine AX.gc0 g1 ?_)
    unfold Wire.strE at hlen
    rw [List.length_append] at hlen
    refine (a_wtext hp1.1 s (by rw [List.length_append]; omega)).mono ?_
    intro v2 h2 hp2
    (refine AX.go0 g1 ?_)
    refine ⟨_, le_refl _, ?_⟩
    rw [← List.append_assoc]
    exact (hp1.tr hp2).app
  rw [if_neg hk3] at hlen ⊢
  have e3 : (k == 3) = false := by simp; omega
  by_cases hk45 : k = 4 ∨ k = 5
  · rw [if_pos hk45] at hlen ⊢
    rw [List.length_append] at hlen
    have hkl5 : (k == 5) = true → ks.length = is.length := fun e => by
      rw [if_pos (by simpa using e)] at hkn; simpa using hkn
    have hln := num_len is.length
    have step : ∀ (j : Nat) (hj : j < is.length), (Val.encs (k == 5) (is.take j) ks).length + (Val.keyE (k == 5) (ks.drop j)).length + (Val.enc is[j]).length ≤ (Val.encs (k == 5) is ks).length := encs_step _ _ _
    have e45 : (k == 4) = true ∨ (k == 4) = false ∧ (k == 5) = true := by
      rcases hk45 with rfl | rfl
      · exact .inl rfl
      · exact .inr ⟨rfl, rfl⟩
    rcases e45 with e4 | ⟨e4, e5⟩
    all_goals
      (refine AX.go0 (And.intro g1 (And.intro e1 (And.intro e2 (And.intro e3 (And.intro e4 @V.cellss_length))))) ?_)
      try (refine AX.go0 (And.intro g1 (And.intro e1 (And.intro e2 (And.intro e3 (And.intro e4 (And.intro e5 @V.cellss_length)))))) ?_)
      (refine AX.gc0 g1 ?_)
      refine (a_wnum hp1.1 is.length (by rw [List.length_append]; omega) (by omega) (by omega)).mono ?_
      intro v2 h2 hp2
      have g2 := hp2.2.2 _ _ (Ne.symm hne) g1
      (refine AX.go0 (And.intro g2 @V.cellss_length) ?_)
      refine awp_loop (fun m ts hh => ∃ (j : Nat), m = is.length - j ∧ j ≤ is.length ∧ WP i ver (l ++ Wire.num k ++ Wire.num is.length ++ Val.encs (k == 5) (is.take j) ks) ⟨hb, ht⟩ hh ∧ hh.b[hb.length]? = some (.cells 43 [.int .i64 k, .int .i64 n, .str s, .sl 5 .no (V.cellss is), .sl 1 .no (strsA ks)]) ∧ ts 0 = .ptr i 0 ∧ ts 3 = .ptr hb.length 0 ∧ ts 34 = .sl 5 .no (V.cellss is) ∧ ts 35 = .int .i64 is.length ∧ ts 36 = .int .i64 j) is.length ?_ ?_
      · refine ⟨0, rfl, Nat.zero_le _, ?_, g2, ?_⟩
        · have := (hp1.tr hp2).app
          simpa [Val.encs] using this
        · (exact AX.inv0 @V.cellss_length)
      · rintro m ts hh ⟨j, rfl, hj, hp, g3, t0, t3, t34, t35, t36⟩
        by_cases hlt : j < is.length
        · have hlt2 : (j : Int) < (is.length : Int) := by omega
          have hla : (j : Int) < ((V.cellss is).length : Int) := by rw [V.cellss_length]; omega
          have ei : IntKind.i64.wrap ((j : Int) + 1) = (j : Int) + 1 := wrap64 (by omega) (by omega)
          have ee := V.cellss_get is j hlt
          have hst := step j hlt
          have htk := Val.encs_take (k == 5) is ks j hlt
          have hcall := fun (l' : List UInt8) (h : Hp) (hw : Wt h i ver l') (hb : l'.length + (Val.enc is[j]).length + 10 ≤ 1000000000) => ih is[j] (List.getElem_mem hlt) i ver l' h hw ((Val.chks_get is _ _ hcs j hlt).elim fun b' hb' => ⟨_, b', hb'⟩) hb (hmem _ (List.getElem_mem hlt))
          obtain ⟨⟨k', n', s', is', ks'⟩, hv⟩ : ∃ x, is[j] = x := ⟨_, rfl⟩
          rw [hv] at ee hcall htk hst
          have hil2 : hh.b.length ≠ i := fun e => by have := hp.1.lt; omega
          have q3 : ∀ m, (hh.b ++ m)[hb.length]? = some (.cells 43 [.int .i64 k, .int .i64 n, .str s, .sl 5 .no (V.cellss is), .sl 1 .no (strsA ks)]) := fun m => get_app5 g3
          rcases bool_or (k == 5) with e5' | e5'
          · have hkj : j < ks.length := by rw [hkl5 e5']; exact hlt
            have hlk2 : (j : Int) < ((strsA ks).length : Int) := by rw [strsA_length]; omega
            have ek := strsA_get ks j hkj
            have hke : Val.keyE (k == 5) (ks.drop j) = Wire.strE ks[j] := by rw [e5', List.drop_eq_getElem_cons hkj]; rfl
            rw [hke] at htk hst
            have hsl : (Wire.strE ks[j]).length = (Wire.num ks[j].length).length + ks[j].length := by unfold Wire.strE; rw [List.length_append]
            (refine AX.goC (And.intro t0 (And.intro t3 (And.intro t34 (And.intro t35 (And.intro t36 (And.intro hla (And.intro hlt2 (And.intro ee (And.intro ei (And.intro @set_new5 (And.intro q3 (And.intro e5' (And.intro hlk2 ek))))))))))))) ?_)
            (refine AX.gc0 (And.intro t0 (And.intro t3 (And.intro t34 (And.intro t35 t36)))) ?_)
            refine (a_wtext (hp.1.app _) ks[j] (by simp only [List.length_append]; omega)).mono ?_
            intro v3 h3 hp3
            have g4 := hp3.2.2 _ _ (Ne.symm hne) (q3 _)
            have g5 := hp3.2.2 _ _ hil2 List.getElem?_concat_length
            (refine AX.go0 (And.intro t0 (And.intro t3 (And.intro t34 (And.intro t35 (And.intro t36 (And.intro g4 g5)))))) ?_)
            (refine AX.gc0 (And.intro t0 (And.intro t3 (And.intro t34 (And.intro t35 t36)))) ?_)
            refine (hcall _ _ hp3.1 (by simp only [List.length_append]; omega)).mono ?_
            intro v4 h4 hp4
            have g6 := hp4.2.2 _ _ (Ne.symm hne) g4
            (refine AX.go0 (And.intro t0 (And.intro t3 (And.intro t34 (And.intro t35 (And.intro t36 ei))))) ?_)
            refine ⟨is.length - (j + 1), by omega, j + 1, rfl, by omega, ?_, g6, ?_⟩
            · rw [htk, ← List.append_assoc, ← List.append_assoc]
              exact hp.tr (hp3.tr hp4).app
            · (exact AX.inv0 (And.intro t0 (And.intro t3 (And.intro t34 (And.intro t35 (And.intro t36 ei))))))
          · have hke : Val.keyE (k == 5) (ks.drop j) = [] := by rw [e5']; rfl
            rw [hke] at htk hst
            (refine AX.goC (And.intro t0 (And.intro t3 (And.intro t34 (And.intro t35 (And.intro t36 (And.intro hla (And.intro hlt2 (And.intro ee (And.intro ei (And.intro @set_new5 (And.intro q3 e5'))))))))))) ?_)
            (refine AX.gc0 (And.intro t0 (And.intro t3 (And.intro t34 (And.intro t35 t36)))) ?_)
            refine (hcall _ _ (hp.1.app _) (by simp only [List.length_append]; omega)).mono ?_
            intro v4 h4 hp4
            have g6 := hp4.2.2 _ _ (Ne.symm hne) (q3 _)
            (refine AX.go0 (And.intro t0 (And.intro t3 (And.intro t34 (And.intro t35 (And.intro t36 ei))))) ?_)
            refine ⟨is.length - (j + 1), by omega, j + 1, rfl, by omega, ?_, g6, ?_⟩
            · rw [htk, List.nil_append, ← List.append_assoc]
              exact hp.tr hp4.app
            · (exact AX.inv0 (And.intro t0 (And.intro t3 (And.intro t34 (And.intro t35 (And.intro t36 ei))))))
        · have hlt2 : ¬ (j : Int) < (is.length : Int) := by omega
          rw [List.take_of_length_le (by omega)] at hp
          (refine AX.go0 (And.intro t0 (And.intro t3 (And.intro t34 (And.intro t35 (And.intro t36 hlt2))))) ?_)
          refine ⟨_, le_refl _, ?_⟩
          rw [← List.append_assoc, ← List.append_assoc]
          exact hp
  · rw [if_neg hk45] at hlen ⊢
    rw [List.append_nil]
    have e4 : (k == 4) = false := by simp; omega
    have e5 : (k == 5) = false := by simp; omega
    (refine AX.go0 (And.intro g1 (And.intro e1 (And.intro e2 (And.intro e3 (And.intro e4 e5))))) ?_)
    exact ⟨_, le_refl _, hp1.app⟩
theorem enc_ne (v : V) : Val.enc v ≠ [] := by
  obtain ⟨k, n, s, is, ks⟩ := v
  rw [Val.enc]
  intro h
  have := (List.append_eq_nil_iff.1 h).1
  unfold Wire.num Wire.encF at this
  split at this <;> simp at this
theorem a_AppendValue (dst : List UInt8) (hd : dst.length ≤ 1000000000) (v : V) (hchk : ∃ lv b, (Val.chk v lv b).1 = 0) (hlen : (Val.enc v).length + 10 ≤ 1000000000) (hl : v.lens) (h : Hp) : ACall Tryz.prog GT 23 [.str dst, v.A] h fun r h' => r = .str (dst ++ Val.enc v) ∧ h' = h := by
  have ht := fun (h : Hp) (hw : Wt h 1 0 []) => t_value v 1 0 [] h hw hchk (by simpa using hlen) hl
  have hne := enc_ne v
  obtain ⟨k, n, s, is, ks⟩ := v
  refine pcall ?_ rfl (by simp [V.A, V.cells, A.pure, A.data]) h
  refine acall_of mixedT h_AppendValue (by simp [c_AppendValue]) ?_
  dsimp only [c_AppendValue]
  (refine AX.goV True.intro ?_)
  (refine AX.gcV True.intro ?_)
  refine (ht _ (.inr ⟨rfl, rfl⟩)).mono ?_
  intro v1 h1 hp
  (refine AX.goV True.intro ?_)
  (refine AX.gcV True.intro ?_)
  refine (a_wstring hp.1 hne).mono ?_
  rintro v2 h2 ⟨rfl, rfl⟩
  have hsum : dst.length + (Val.enc (.mk k n s is ks)).length < 1099511627776 := by omega
  (refine AX.goV hsum ?_)
  exact ⟨_, le_refl _, rfl⟩
end AX
end Go.Proofs.YtdikbljgmpbpjaaGreatDoor

namespace Go.Proofs.YtdikbljgmpbpjaaGreatDoor
open Go.RowKit
set_option linter.unusedSimpArgs false
set_option linter.unusedVariables false
set_option maxHeartbeats 4000000
namespace AX
def c_newReader : AX.AFn := ⟨7, .seq (.reg false [⟨some 2, .mv (.c (.nilp)), none, []⟩]) (.seq (.reg false [⟨some 3, .mv (.t 0), none, []⟩, ⟨some 4, .build [.str [], .int .i64 0, .bool false] [(0, 1, .t 3), (2, 1, .c (.bool true))], none, []⟩, ⟨some 5, .build [.str [], .int .i64 0, .bool false] [(0, 3, .t 4)], none, []⟩, ⟨some 6, .box 107 (.t 5), none, []⟩, ⟨some 2, .mv (.t 6), none, []⟩]) (.ret)), [.t 2]⟩
theorem h_newReader : AX.compFn Tryz.prog 25 = some c_newReader := by kernel_rfl
def c_valueBack : AX.AFn := ⟨56, .seq (.reg false [⟨some 2, .box 43 (.t 0), none, []⟩, ⟨some 4, .mv (.c (.bool false)), none, []⟩]) (.seq (.seq (.reg false [⟨some 8, .mv (.t 1), none, []⟩, ⟨some 9, .len true (.t 8), none, []⟩, ⟨some 10, .bin .gtr (.t 9) (.c (.int .i64 1000)), none, []⟩, ⟨some 11, .mv (.t 10), none, []⟩, ⟨some 12, .load true 5 (.t 2), some (11, false), []⟩, ⟨some 13, .call 21 [.t 12, .c (.int .i64 200)], some (11, false), []⟩, ⟨some 14, .un .not (.t 13), some (11, false), []⟩, ⟨some 15, .pick (.t 11) (.c (.bool true)) (.t 14), none, []⟩, ⟨some 16, .mv (.t 15), none, []⟩, ⟨some 17, .load true 5 (.t 2), some (16, false), []⟩, ⟨some 18, .call 22 [.t 17], some (16, false), []⟩, ⟨some 19, .bin .neq (.t 18) (.c (.int .i64 0)), some (16, false), []⟩, ⟨some 20, .pick (.t 16) (.c (.bool true)) (.t 19), none, []⟩]) (.cond (.t 20) (.seq (.reg false [⟨some 21, .call 10 [], none, []⟩, ⟨some 4, .mv (.t 21), none, []⟩]) (.ret)) (.skip))) (.seq (.reg false [⟨some 22, .load true 5 (.t 2), none, []⟩, ⟨some 23, .call 23 [.c (.str []), .t 22], none, []⟩, ⟨some 24, .mv (.t 1), none, []⟩, ⟨some 25, .bin .add (.t 23) (.t 24), none, []⟩, ⟨some 26, .call 25 [.t 25], none, []⟩, ⟨some 5, .mv (.t 26), none, []⟩]) (.seq (.seq (.reg false [⟨some 27, .mv (.t 5), none, []⟩, ⟨some 28, .eq 1 [] false (.t 27) (.c (.nilp)), none, []⟩]) (.cond (.t 28) (.seq (.reg false [⟨some 4, .mv (.c (.bool false)), none, []⟩]) (.ret)) (.skip))) (.seq (.reg false [⟨some 30, .mv (.t 5), none, []⟩, ⟨some 31, .call 26 [.t 30], none, []⟩, ⟨some 29, .mv (.t 31), none, []⟩, ⟨some 32, .extract (.t 29) 0, none, []⟩, ⟨some 33, .extract (.t 29) 1, none, []⟩, ⟨some 6, .alloc 43 [.int .i64 0, .int .i64 0, .str [], .sl 0 .nil [], .sl 0 .nil []], none, []⟩, ⟨none, .store 5 (.t 6) (.t 32), none, []⟩, ⟨some 7, .mv (.t 33), none, []⟩]) (.seq (.reg false [⟨some 34, .mv (.t 7), none, []⟩, ⟨some 35, .bin .eql (.t 34) (.c (.int .i64 0)), none, []⟩, ⟨some 36, .mv (.t 35), none, []⟩, ⟨some 37, .load true 5 (.t 6), some (36, true), []⟩, ⟨some 38, .load true 5 (.t 2), some (36, true), []⟩, ⟨some 39, .call 32 [.t 37, .t 38], some (36, true), []⟩, ⟨some 40, .pick (.t 36) (.t 39) (.c (.bool false)), none, []⟩, ⟨some 41, .mv (.t 40), none, []⟩, ⟨some 42, .mv (.t 5), some (41, true), []⟩, ⟨some 43, .call 30 [.t 42], some (41, true), []⟩, ⟨some 44, .mv (.t 1), some (41, true), []⟩, ⟨some 45, .len true (.t 44), some (41, true), []⟩, ⟨some 46, .bin .eql (.t 43) (.t 45), some (41, true), []⟩, ⟨some 47, .pick (.t 41) (.t 46) (.c (.bool false)), none, []⟩, ⟨some 48, .mv (.t 47), none, []⟩, ⟨some 49, .mv (.t 5), some (48, true), []⟩, ⟨some 50, .call 33 [.t 49], some (48, true), []⟩, ⟨some 51, .bin .eql (.t 50) (.c (.int .i64 0)), some (48, true), []⟩, ⟨some 52, .pick (.t 48) (.t 51) (.c (.bool false)), none, []⟩, ⟨some 53, .mv (.t 52), none, []⟩, ⟨some 54, .call 10 [], some (53, true), []⟩, ⟨some 55, .pick (.t 53) (.t 54) (.c (.bool false)), none, []⟩, ⟨some 4, .mv (.t 55), none, []⟩]) (.ret)))))), [.t 4]⟩
theorem h_valueBack : AX.compFn Tryz.prog 7 = some c_valueBack := by kernel_rfl

theorem a_newReader (l : List UInt8) (h : Hp) : ACall Tryz.prog GT 25 [.str l] h fun v h' => v = .ptr h.b.length 0 ∧ h' = ⟨h.b ++ [rdr ⟨l, 0⟩], h.t⟩ := by
  refine acall_of mixedT h_newReader (by simp [c_newReader]) ?_
  dsimp only [c_newReader]
  (refine AX.go0 True.intro ?_)
  exact ⟨_, le_refl _, rfl, rfl⟩
/-- awake answers true, and leaves what was. -/
def Awake : Prop := ∀ h, ACall Tryz.prog GT 10 [] h fun v h' => v = .bool true ∧ h' = h
theorem w_valueBack (haw : Awake) (v : V) (hl : v.lens) (more : List UInt8) : ACall Tryz.prog GT 7 [v.A, .str more] ⟨[], []⟩ fun r _ => r = .bool true := by
  refine acall_of mixedT h_valueBack (by simp [c_valueBack]) ?_
  dsimp only [c_valueBack]
  obtain ⟨sm, hSm⟩ : ∃ b, ∀ h, ACall Tryz.prog GT 21 [v.A, .int .i64 200] h fun r h' => r = .bool b ∧ h' = h := ⟨_, fun h => a_rSmall v 200 (by decide) hl h⟩
  have hCk := fun h => a_rCheck v hl h
  have hEq := fun h => a_vEqual v v hl hl h
  have hAp := fun hc hb h => a_AppendValue [] (by simp) v hc hb hl h
  have hBk := Val.value_back v more
  have hself := Val.eq_self v
  have hbd := Val.enc_bound v 1 0
  have hnd := Val.chk_nodes v 1 0
  have hcz : Val.checkZ v = (Val.chk v 1 0).1 := rfl
  obtain ⟨k, n, s, is, ks⟩ := v
  simp only [V.A, V.cells] at hSm hCk hEq hAp
  by_cases hm : (more.length : Int) > 1000
  · (refine AX.goV hm ?_)
    (refine AX.gcV hm ?_)
    refine (haw _).mono ?_
    rintro v1 h1 ⟨rfl, rfl⟩
    (refine AX.goV hm ?_)
    exact ⟨_, le_refl _, rfl⟩
  (refine AX.goV hm ?_)
  (refine AX.gcV hm ?_)
  refine (hSm _).mono ?_
  rintro v1 h1 ⟨rfl, rfl⟩
  rcases bool_or sm with rfl | rfl
  rotate_left
  · (refine AX.goV hm ?_)
    (refine AX.gcV hm ?_)
    refine (haw _).mono ?_
    rintro v1 h1 ⟨rfl, rfl⟩
    (refine AX.goV hm ?_)
    exact ⟨_, le_refl _, rfl⟩
  (refine AX.goV hm ?_)
  (refine AX.gcV hm ?_)
  refine (hCk _).mono ?_
  rintro v1 h1 ⟨rfl, rfl⟩
  by_cases hz : Val.checkZ (.mk k n s is ks) = 0
  rotate_left
  · have e1 : (Val.checkZ (.mk k n s is ks) != 0) = true := by simp [hz]
    (refine AX.goV (And.intro hm e1) ?_)
    (refine AX.gcV (And.intro hm e1) ?_)
    refine (haw _).mono ?_
    rintro v1 h1 ⟨rfl, rfl⟩
    (refine AX.goV hm ?_)
    exact ⟨_, le_refl _, rfl⟩
  have e1 : (Val.checkZ (.mk k n s is ks) != 0) = false := by simp [hz]
  have hbd' := hbd (by rw [← hcz]; exact hz)
  have hnd' := hnd (by rw [← hcz]; exact hz)
  have hB := hBk hz
  (refine AX.goV (And.intro hm e1) ?_)
  (refine AX.gcV (And.intro hm e1) ?_)
  refine (hAp ⟨1, 0, by rw [← hcz]; exact hz⟩ (by omega) _).mono ?_
  rintro v1 h1 ⟨rfl, rfl⟩
  have hsum : (Val.enc (.mk k n s is ks)).length + more.length < 1099511627776 := by omega
  (refine AX.goV hsum ?_)
  (refine AX.gcV True.intro ?_)
  refine (a_newReader _ _).mono ?_
  rintro v1 h1 ⟨rfl, rfl⟩
  (refine AX.go0 True.intro ?_)
  (refine AX.gc0 True.intro ?_)
  refine (a_ReadValue ⟨Val.enc (.mk k n s is ks) ++ more, 0⟩ 1 _ rfl (by rw [List.length_append]; omega)).mono ?_
  rintro v1 h1 ⟨rfl, hp⟩
  rw [hB] at hp ⊢
  have g0 := hp.2.1 0 _ (by decide) rfl
  have hl0 : 0 < h1.b.length := (List.getElem?_eq_some_iff.1 g0).1
  have hl1 : 1 < h1.b.length := (List.getElem?_eq_some_iff.1 hp.1).1
  have g0n : ∀ y, (h1.b ++ [y])[0]? = _ := fun y => get_app7 g0
  simp only [V.A, V.cells]
  (refine AX.go0 (And.intro @set_new7 g0n) ?_)
  (refine AX.gc0 (And.intro @set_new7 g0n) ?_)
  refine (hEq _).mono ?_
  rintro v1 h2 ⟨rfl, rfl⟩
  rw [hself]
  (refine AX.go0 g0n ?_)
  (refine AX.gc0 g0n ?_)
  refine (a_left (r := ⟨more, 0⟩) (get_app7 hp.1)).mono ?_
  rintro v1 h2 ⟨rfl, rfl⟩
  (refine AX.go0 g0n ?_)
  (refine AX.gc0 g0n ?_)
  refine (a_err (r := ⟨more, 0⟩) (get_app7 hp.1)).mono ?_
  rintro v1 h2 ⟨rfl, rfl⟩
  (refine AX.go0 g0n ?_)
  (refine AX.gc0 g0n ?_)
  refine (haw _).mono ?_
  rintro v1 h2 ⟨rfl, rfl⟩
  (refine AX.go0 g0n ?_)
  exact ⟨_, le_refl _, rfl⟩
end AX
end Go.Proofs.YtdikbljgmpbpjaaGreatDoor

namespace Go.Proofs.YtdikbljgmpbpjaaGreatDoor
open Go.RowKit
set_option linter.unusedSimpArgs false
set_option linter.unusedVariables false
set_option maxHeartbeats 4000000
namespace AX
def c_hasPrefix : AX.AFn := ⟨8, .seq (.reg false [⟨some 4, .mv (.c (.bool false)), none, []⟩]) (.seq (.reg false [⟨some 5, .mv (.t 0), none, []⟩, ⟨some 6, .mv (.t 1), none, []⟩, ⟨some 7, .call 77 [.t 5, .t 6], none, []⟩, ⟨some 4, .mv (.t 7), none, []⟩]) (.ret)), [.t 4]⟩
theorem h_hasPrefix : AX.compFn Tryz.prog 38 = some c_hasPrefix := by kernel_rfl
def c_liteHasPrefix : AX.AFn := ⟨18, .seq (.reg false [⟨some 4, .mv (.c (.bool false)), none, []⟩]) (.seq (.reg false [⟨some 5, .mv (.t 0), none, []⟩, ⟨some 6, .len true (.t 5), none, []⟩, ⟨some 7, .mv (.t 1), none, []⟩, ⟨some 8, .len true (.t 7), none, []⟩, ⟨some 9, .bin .geq (.t 6) (.t 8), none, []⟩, ⟨some 10, .mv (.t 9), none, []⟩, ⟨some 11, .mv (.t 0), some (10, true), []⟩, ⟨some 12, .mv (.t 1), some (10, true), []⟩, ⟨some 13, .len true (.t 12), some (10, true), []⟩, ⟨some 14, .ssl (.t 11) none (some (.t 13)), some (10, true), []⟩, ⟨some 15, .mv (.t 1), some (10, true), []⟩, ⟨some 16, .bin .eql (.t 14) (.t 15), some (10, true), []⟩, ⟨some 17, .pick (.t 10) (.t 16) (.c (.bool false)), none, []⟩, ⟨some 4, .mv (.t 17), none, []⟩]) (.ret)), [.t 4]⟩
theorem h_liteHasPrefix : AX.compFn Tryz.prog 77 = some c_liteHasPrefix := by kernel_rfl
def c_version : AX.AFn := ⟨24, .seq (.reg false [⟨some 2, .mv (.c (.int .i64 0)), none, []⟩, ⟨some 3, .mv (.c (.int .i64 0)), none, []⟩]) (.seq (.seq (.reg false [⟨some 6, .mv (.t 0), none, []⟩, ⟨some 7, .call 38 [.t 6, .c (.str [80, 86, 83, 84])], none, []⟩, ⟨some 8, .un .not (.t 7), none, []⟩]) (.cond (.t 8) (.seq (.reg false [⟨some 2, .mv (.c (.int .i64 0)), none, []⟩, ⟨some 3, .mv (.c (.int .i64 2)), none, []⟩]) (.ret)) (.skip))) (.seq (.reg false [⟨some 9, .mv (.t 0), none, []⟩, ⟨some 10, .ssl (.t 9) (some (.c (.int .i64 4))) none, none, []⟩, ⟨some 11, .call 25 [.t 10], none, []⟩, ⟨some 4, .mv (.t 11), none, []⟩]) (.seq (.reg false [⟨some 12, .mv (.t 4), none, []⟩, ⟨some 13, .call 40 [.t 12], none, []⟩, ⟨some 5, .mv (.t 13), none, []⟩]) (.seq (.seq (.reg false [⟨some 14, .mv (.t 4), none, []⟩, ⟨some 15, .call 33 [.t 14], none, []⟩, ⟨some 16, .bin .neq (.t 15) (.c (.int .i64 0)), none, []⟩]) (.cond (.t 16) (.seq (.reg false [⟨some 2, .mv (.c (.int .i64 0)), none, []⟩, ⟨some 3, .mv (.c (.int .i64 2)), none, []⟩]) (.ret)) (.skip))) (.seq (.seq (.reg false [⟨some 17, .mv (.t 5), none, []⟩, ⟨some 18, .bin .neq (.t 17) (.c (.int .i64 1)), none, []⟩, ⟨some 19, .mv (.t 18), none, []⟩, ⟨some 20, .mv (.t 5), some (19, true), []⟩, ⟨some 21, .bin .neq (.t 20) (.c (.int .i64 2)), some (19, true), []⟩, ⟨some 22, .pick (.t 19) (.t 21) (.c (.bool false)), none, []⟩]) (.cond (.t 22) (.seq (.reg false [⟨some 2, .mv (.c (.int .i64 0)), none, []⟩, ⟨some 3, .mv (.c (.int .i64 21)), none, []⟩]) (.ret)) (.skip))) (.seq (.reg false [⟨some 23, .mv (.t 5), none, []⟩, ⟨some 2, .mv (.t 23), none, []⟩, ⟨some 3, .mv (.c (.int .i64 0)), none, []⟩]) (.ret))))))), [.t 2, .t 3]⟩
theorem h_version : AX.compFn Tryz.prog 17 = some c_version := by kernel_rfl

theorem a_liteHasPrefix (s p : List UInt8) (h : Hp) : ACall Tryz.prog GT 77 [.str s, .str p] h fun r h' => r = .bool (decide (p.length ≤ s.length) && s.take p.length == p) ∧ h' = h := by
  refine pcall ?_ rfl (by simp [A.pure, A.data]) h
  refine acall_of mixedT h_liteHasPrefix (by simp [c_liteHasPrefix]) ?_
  dsimp only [c_liteHasPrefix]
  by_cases hl : p.length ≤ s.length
  · have h1 : (s.length : Int) ≥ (p.length : Int) := by omega
    have h2 : (p.length : Int) ≤ (s.length : Int) := by omega
    (refine AX.go0 (And.intro h1 h2) ?_)
    exact ⟨_, le_refl _, by rw [tupA_1, decide_eq_true hl]; rfl⟩
  · have h1 : ¬ (s.length : Int) ≥ (p.length : Int) := by omega
    (refine AX.go0 h1 ?_)
    exact ⟨_, le_refl _, by rw [tupA_1, decide_eq_false hl]; rfl⟩
theorem a_hasPrefix (s p : List UInt8) (h : Hp) : ACall Tryz.prog GT 38 [.str s, .str p] h fun r h' => r = .bool (decide (p.length ≤ s.length) && s.take p.length == p) ∧ h' = h := by
  refine pcall ?_ rfl (by simp [A.pure, A.data]) h
  refine acall_of mixedT h_hasPrefix (by simp [c_hasPrefix]) ?_
  dsimp only [c_hasPrefix]
  (refine AX.go0 True.intro ?_)
  (refine AX.gc0 True.intro ?_)
  refine (a_liteHasPrefix s p _).mono ?_
  rintro v h1 ⟨rfl, rfl⟩
  (refine AX.go0 True.intro ?_)
  exact ⟨_, le_refl _, rfl⟩
def magic : List UInt8 := [80, 86, 83, 84]
def preB (s : List UInt8) : Bool := decide (magic.length ≤ s.length) && s.take magic.length == magic
def versionS (s : List UInt8) : Int × Int :=
  if preB s = false then (0, 2) else
  let r := Wire.numR ⟨s.drop 4, 0⟩
  if r.1.e ≠ 0 then (0, 2) else if r.2 ≠ 1 ∧ r.2 ≠ 2 then (0, 21) else (r.2, 0)
theorem a_version (s : List UInt8) (hs : s.length ≤ 100000000) (h : Hp) : ACall Tryz.prog GT 17 [.str s] h fun r h' => r = .tup [.int .i64 (versionS s).1, .int .i64 (versionS s).2] ∧ h' = h := by
  refine pcall ?_ rfl (by simp [A.pure, A.data]) h
  refine acall_of mixedT h_version (by simp [c_version]) ?_
  dsimp only [c_version]
  (refine AX.go0 True.intro ?_)
  (refine AX.gc0 True.intro ?_)
  refine (a_hasPrefix s magic _).mono ?_
  rintro v h1 ⟨rfl, rfl⟩
  have hV : versionS s = if preB s = false then (0, 2) else if (Wire.numR ⟨s.drop 4, 0⟩).1.e ≠ 0 then (0, 2) else if (Wire.numR ⟨s.drop 4, 0⟩).2 ≠ 1 ∧ (Wire.numR ⟨s.drop 4, 0⟩).2 ≠ 2 then (0, 21) else ((Wire.numR ⟨s.drop 4, 0⟩).2, 0) := rfl
  rcases bool_or (preB s) with hp | hp
  rotate_left
  · rw [if_pos hp] at hV
    unfold preB at hp
    rw [hp, hV]
    (refine AX.go0 True.intro ?_)
    exact ⟨_, le_refl _, rfl⟩
  · rw [if_neg (by simp [hp])] at hV
    have hl4 : (4 : Int) ≤ (s.length : Int) := by
      unfold preB at hp
      simp only [Bool.and_eq_true, decide_eq_true_eq] at hp
      have := hp.1
      simp only [magic, List.length_cons, List.length_nil] at this
      omega
    unfold preB at hp
    rw [hp]
    have h04 : (0 : Int) ≤ 4 := by decide
    have h4 : (4 : Int).toNat = 4 := rfl
    (refine AX.go0 (And.intro hl4 (And.intro h04 h4)) ?_)
    (refine AX.gc0 True.intro ?_)
    refine (a_newReader (s.drop 4) _).mono ?_
    rintro v h1 ⟨rfl, rfl⟩
    (refine AX.go0 True.intro ?_)
    (refine AX.gc0 True.intro ?_)
    refine (a_number (i := 0) (r := ⟨s.drop 4, 0⟩) rfl (by simp; omega)).mono ?_
    rintro v h1 ⟨rfl, rfl⟩
    (refine AX.go0 True.intro ?_)
    (refine AX.gc0 True.intro ?_)
    refine (a_err (i := 0) (r := (Wire.numR ⟨s.drop 4, 0⟩).1) rfl).mono ?_
    rintro v h1 ⟨rfl, rfl⟩
    obtain ⟨q, hq⟩ : ∃ q, Wire.numR ⟨s.drop 4, 0⟩ = q := ⟨_, rfl⟩
    rw [hq] at hV ⊢
    by_cases he : q.1.e = 0
    rotate_left
    · have e1 : (q.1.e != 0) = true := by simp [he]
      rw [if_pos he] at hV
      rw [hV]
      (refine AX.go0 e1 ?_)
      exact ⟨_, le_refl _, rfl⟩
    · have e1 : (q.1.e != 0) = false := by simp [he]
      rw [if_neg (by simp [he])] at hV
      by_cases h1 : q.2 = 1
      · have e2 : (q.2 != 1) = false := by simp [h1]
        rw [if_neg (by simp [h1])] at hV
        rw [hV]
        (refine AX.go0 (And.intro e1 e2) ?_)
        exact ⟨_, le_refl _, rfl⟩
      · have e2 : (q.2 != 1) = true := by simp [h1]
        by_cases h2 : q.2 = 2
        · have e3 : (q.2 != 2) = false := by simp [h2]
          rw [if_neg (by simp [h2])] at hV
          rw [hV]
          (refine AX.go0 (And.intro e1 (And.intro e2 e3)) ?_)
          exact ⟨_, le_refl _, rfl⟩
        · have e3 : (q.2 != 2) = true := by simp [h2]
          rw [if_pos ⟨h1, h2⟩] at hV
          rw [hV]
          (refine AX.go0 (And.intro e1 (And.intro e2 e3)) ?_)
          exact ⟨_, le_refl _, rfl⟩
end AX
end Go.Proofs.YtdikbljgmpbpjaaGreatDoor

namespace Go.Proofs.YtdikbljgmpbpjaaGreatDoor
open Go.RowKit
set_option linter.unusedSimpArgs false
set_option linter.unusedVariables false
set_option maxHeartbeats 4000000
namespace AX
def c_wstate : AX.AFn := ⟨99, .seq (.reg false [⟨some 3, .box 26 (.t 1), none, []⟩]) (.seq (.reg false [⟨some 10, .mv (.t 0), none, []⟩, ⟨some 11, .nilck (.t 10), none, []⟩, ⟨some 12, .faddr 0 (.t 11), none, []⟩, ⟨some 13, .call 112 [.t 12, .c (.str [80, 86, 83, 84])], none, []⟩]) (.seq (.reg false [⟨some 14, .mv (.t 0), none, []⟩, ⟨some 15, .mv (.t 0), none, []⟩, ⟨some 16, .nilck (.t 15), none, []⟩, ⟨some 17, .faddr 2 (.t 16), none, []⟩, ⟨some 18, .load false 1 (.t 17), none, []⟩, ⟨some 19, .call 107 [.t 14, .t 18], none, []⟩]) (.seq (.reg false [⟨some 20, .mv (.t 0), none, []⟩, ⟨some 21, .faddr 0 (.t 3), none, []⟩, ⟨some 22, .load false 1 (.t 21), none, []⟩, ⟨some 23, .call 108 [.t 20, .t 22], none, []⟩]) (.seq (.reg false [⟨some 24, .mv (.t 0), none, []⟩, ⟨some 25, .faddr 1 (.t 3), none, []⟩, ⟨some 26, .load false 1 (.t 25), none, []⟩, ⟨some 27, .call 107 [.t 24, .t 26], none, []⟩]) (.seq (.reg false [⟨some 28, .mv (.t 0), none, []⟩, ⟨some 29, .faddr 2 (.t 3), none, []⟩, ⟨some 30, .load false 1 (.t 29), none, []⟩, ⟨some 31, .len false (.t 30), none, []⟩, ⟨some 32, .call 107 [.t 28, .t 31], none, []⟩]) (.seq (.seq (.reg false [⟨some 33, .faddr 2 (.t 3), none, []⟩, ⟨some 34, .load false 1 (.t 33), none, []⟩, ⟨some 35, .len false (.t 34), none, []⟩, ⟨some 36, .mv (.c (.int .i64 0)), none, []⟩]) (.block 0 (.loop (.seq (.reg false [⟨some 37, .bin .lss (.t 36) (.t 35), none, []⟩]) (.seq (.cond (.t 37) (.skip) (.exit 0)) (.seq (.block 1 (.seq (.reg false [⟨some 38, .iaddr 13 (.t 34) (.t 36), none, []⟩, ⟨some 39, .load true 13 (.t 38), none, []⟩, ⟨some 5, .alloc 63 [.str [], .str [], .str [], .str [], .int .i64 0, .int .i64 0, .str [], .sl 0 .nil [], .sl 0 .nil [], .int .i64 0, .bool false, .bool false, .sl 0 .nil []], none, []⟩, ⟨none, .store 13 (.t 5) (.t 39), none, []⟩]) (.reg false [⟨some 40, .mv (.t 0), none, []⟩, ⟨some 41, .load true 13 (.t 5), none, []⟩, ⟨some 42, .call 113 [.t 40, .t 41], none, []⟩]))) (.reg false [⟨some 43, .bin .add (.t 36) (.c (.int .i64 1)), none, []⟩, ⟨some 36, .mv (.t 43), none, []⟩]))))))) (.seq (.seq (.reg false [⟨some 44, .mv (.t 0), none, []⟩, ⟨some 45, .nilck (.t 44), none, []⟩, ⟨some 46, .faddr 2 (.t 45), none, []⟩, ⟨some 47, .load false 1 (.t 46), none, []⟩, ⟨some 48, .bin .eql (.t 47) (.c (.int .i64 2)), none, []⟩]) (.cond (.t 48) (.seq (.reg false [⟨some 49, .mv (.t 0), none, []⟩, ⟨some 50, .faddr 3 (.t 3), none, []⟩, ⟨some 51, .load false 1 (.t 50), none, []⟩, ⟨some 52, .len false (.t 51), none, []⟩, ⟨some 53, .call 107 [.t 49, .t 52], none, []⟩]) (.seq (.reg false [⟨some 54, .faddr 3 (.t 3), none, []⟩, ⟨some 55, .load false 1 (.t 54), none, []⟩, ⟨some 56, .len false (.t 55), none, []⟩, ⟨some 57, .mv (.c (.int .i64 0)), none, []⟩]) (.block 2 (.loop (.seq (.reg false [⟨some 58, .bin .lss (.t 57) (.t 56), none, []⟩]) (.seq (.cond (.t 58) (.skip) (.exit 2)) (.seq (.block 3 (.seq (.reg false [⟨some 59, .iaddr 3 (.t 55) (.t 57), none, []⟩, ⟨some 60, .load true 3 (.t 59), none, []⟩, ⟨some 7, .alloc 81 [.str [], .str [], .str []], none, []⟩, ⟨none, .store 3 (.t 7) (.t 60), none, []⟩]) (.seq (.reg false [⟨some 61, .mv (.t 0), none, []⟩, ⟨some 62, .faddr 0 (.t 7), none, []⟩, ⟨some 63, .load false 1 (.t 62), none, []⟩, ⟨some 64, .call 108 [.t 61, .t 63], none, []⟩]) (.seq (.reg false [⟨some 65, .mv (.t 0), none, []⟩, ⟨some 66, .faddr 1 (.t 7), none, []⟩, ⟨some 67, .load false 1 (.t 66), none, []⟩, ⟨some 68, .call 108 [.t 65, .t 67], none, []⟩]) (.reg false [⟨some 69, .mv (.t 0), none, []⟩, ⟨some 70, .faddr 2 (.t 7), none, []⟩, ⟨some 71, .load false 1 (.t 70), none, []⟩, ⟨some 72, .call 108 [.t 69, .t 71], none, []⟩]))))) (.reg false [⟨some 73, .bin .add (.t 57) (.c (.int .i64 1)), none, []⟩, ⟨some 57, .mv (.t 73), none, []⟩])))))))) (.skip))) (.seq (.reg false [⟨some 74, .mv (.t 0), none, []⟩, ⟨some 75, .faddr 4 (.t 3), none, []⟩, ⟨some 76, .load false 1 (.t 75), none, []⟩, ⟨some 77, .len false (.t 76), none, []⟩, ⟨some 78, .call 107 [.t 74, .t 77], none, []⟩]) (.seq (.reg false [⟨some 79, .faddr 4 (.t 3), none, []⟩, ⟨some 80, .load false 1 (.t 79), none, []⟩, ⟨some 81, .len false (.t 80), none, []⟩, ⟨some 82, .mv (.c (.int .i64 0)), none, []⟩]) (.block 4 (.loop (.seq (.reg false [⟨some 83, .bin .lss (.t 82) (.t 81), none, []⟩]) (.seq (.cond (.t 83) (.skip) (.exit 4)) (.seq (.block 5 (.seq (.reg false [⟨some 84, .iaddr 7 (.t 80) (.t 82), none, []⟩, ⟨some 85, .load true 7 (.t 84), none, []⟩, ⟨some 9, .alloc 83 [.str [], .int .i64 0, .int .i64 0, .str [], .sl 0 .nil [], .sl 0 .nil [], .bool false], none, []⟩, ⟨none, .store 7 (.t 9) (.t 85), none, []⟩]) (.seq (.reg false [⟨some 86, .mv (.t 0), none, []⟩, ⟨some 87, .faddr 0 (.t 9), none, []⟩, ⟨some 88, .load false 1 (.t 87), none, []⟩, ⟨some 89, .call 108 [.t 86, .t 88], none, []⟩]) (.seq (.reg false [⟨some 90, .mv (.t 0), none, []⟩, ⟨some 91, .faddr 1 (.t 9), none, []⟩, ⟨some 92, .load true 5 (.t 91), none, []⟩, ⟨some 93, .call 56 [.t 90, .t 92], none, []⟩]) (.reg false [⟨some 94, .mv (.t 0), none, []⟩, ⟨some 95, .faddr 6 (.t 9), none, []⟩, ⟨some 96, .load false 1 (.t 95), none, []⟩, ⟨some 97, .call 114 [.t 94, .t 96], none, []⟩]))))) (.reg false [⟨some 98, .bin .add (.t 82) (.c (.int .i64 1)), none, []⟩, ⟨some 82, .mv (.t 98), none, []⟩]))))))))))))))), []⟩
theorem h_wstate : AX.compFn Tryz.prog 70 = some c_wstate := by kernel_rfl

theorem go_once {P : Program} {G : World → Prop} {c : ACode} {Q : AExit → Ts → Hp → Prop} {ts : Ts} {h : Hp} (k : awp P G c (thenA (fun _ _ => False) Q) ts h) : awp P G (.loop c) Q ts h := ⟨1, k⟩
theorem WP.bx {i : Nat} {ver : Int} {l : List UInt8} {h h' : Hp} (hp : WP i ver l h h') (h0 : l ≠ []) : h'.b[i]? = some (wtr ver l) := by
  rcases hp.1 with h1 | ⟨h1, _⟩
  · exact h1
  · exact absurd h1 h0
def state0 (ver : Int) (s : List UInt8) (n : Int) : List UInt8 := magic ++ Wire.num ver ++ Wire.strE s ++ Wire.num n ++ Wire.num 0 ++ (if ver = 2 then Wire.num 0 else []) ++ Wire.num 0
theorem a_wstate0 {h : Hp} {i : Nat} {ver : Int} (hw : Wt h i ver []) (s : List UInt8) (n : Int) (hs : s.length ≤ 1000000) (h0 : -9223372036854775808 ≤ n) (h1 : n ≤ 9223372036854775807) (hv : ver = 1 ∨ ver = 2) :
    ACall Tryz.prog GT 70 [.ptr i 0, .agg [.str s, .int .i64 n, .sl 0 .nil [], .sl 0 .nil [], .sl 0 .nil []]] h fun _ h' => WP i ver (state0 ver s n) h h' := by
  obtain ⟨hb, ht⟩ := h
  refine acall_of mixedT h_wstate (by simp [c_wstate]) ?_
  dsimp only [c_wstate]
  have hne : hb.length ≠ i := by have := hw.lt; simp at this; omega
  have hml : magic.length = 4 := rfl
  (refine AX.go0 True.intro ?_)
  (refine AX.gc0 True.intro ?_)
  refine (a_write (hw.app _) magic (by simp [hml])).mono ?_
  rintro v1 h1' ⟨rfl, hh1⟩
  have p1 : WP i ver magic ⟨hb, ht⟩ h1' := by rw [hh1]; exact (WP.of (l' := magic) (hw.app [_])).app
  have b1 : h1'.b[i]? = some (wtr ver magic) := by
    rw [hh1]; show (List.set _ i _)[i]? = _
    rw [List.getElem?_set, if_pos rfl, if_pos (hw.app _).lt]; rfl
  have g1 : h1'.b[hb.length]? = some (.cells 26 [.str s, .int .i64 n, .sl 0 .nil [], .sl 0 .nil [], .sl 0 .nil []]) := by
    rw [hh1]; show (List.set _ i _)[_]? = _
    rw [List.getElem?_set, if_neg (Ne.symm hne)]; exact List.getElem?_concat_length
  clear hh1
  (refine AX.goW b1 ?_)
  (refine AX.gc0 True.intro ?_)
  have l1 := num_len ver
  have l2 := num_len s.length
  have l3 := num_len n
  have l4 := num_len 0
  refine (a_wnum p1.1 ver (by rw [hml]; decide) (by omega) (by omega)).mono ?_
  intro v2 h2 p2
  have g2 := p2.2.2 _ _ hne g1
  (refine AX.go0 g2 ?_)
  (refine AX.gc0 True.intro ?_)
  refine (a_wtext p2.1 s (by simp only [List.length_append, hml]; omega)).mono ?_
  intro v3 h3 p3
  have g3 := p3.2.2 _ _ hne g2
  (refine AX.go0 g3 ?_)
  (refine AX.gc0 True.intro ?_)
  have l5 : (Wire.strE s).length = (Wire.num s.length).length + s.length := by unfold Wire.strE; rw [List.length_append]
  refine (a_wnum p3.1 n (by simp only [List.length_append, hml]; omega) h0 h1).mono ?_
  intro v4 h4 p4
  have g4 := p4.2.2 _ _ hne g3
  (refine AX.go0 g4 ?_)
  (refine AX.gc0 True.intro ?_)
  refine (a_wnum p4.1 _ (by simp only [List.length_append, hml]; omega) (by decide) (by decide)).mono ?_
  intro v5 h5 p5
  have g5 := p5.2.2 _ _ hne g4
  have b5 := p5.bx (by simp [magic])
  have hz : ¬ (0 : Int) < ((0 : Nat) : Int) := by decide
  (refine AX.go0 g5 ?_)
  refine go_once ?_
  have l6 : (Wire.num ((0 : Nat) : Int)).length ≤ 10 := num_len _
  rcases hv with rfl | rfl
  · (refine AX.goW (And.intro g5 (And.intro hz b5)) ?_)
    (refine AX.gc0 True.intro ?_)
    refine (a_wnum p5.1 _ (by simp only [List.length_append, hml]; omega) (by decide) (by decide)).mono ?_
    intro v6 h6 p6
    have g6 := p6.2.2 _ _ hne g5
    (refine AX.go0 g6 ?_)
    refine go_once ?_
    (refine AX.go0 (And.intro g6 hz) ?_)
    exact ⟨_, le_refl _, by simpa [state0] using p1.tr (p2.tr (p3.tr (p4.tr (p5.tr p6))))⟩
  · (refine AX.goW (And.intro g5 (And.intro hz b5)) ?_)
    (refine AX.gc0 True.intro ?_)
    refine (a_wnum p5.1 _ (by simp only [List.length_append, hml]; omega) (by decide) (by decide)).mono ?_
    intro v6 h6 p6
    have g6 := p6.2.2 _ _ hne g5
    (refine AX.go0 g6 ?_)
    refine go_once ?_
    (refine AX.go0 (And.intro g6 hz) ?_)
    (refine AX.gc0 True.intro ?_)
    refine (a_wnum p6.1 _ (by simp only [List.length_append, hml]; omega) (by decide) (by decide)).mono ?_
    intro v7 h7 p7
    have g7 := p7.2.2 _ _ hne g6
    (refine AX.go0 g7 ?_)
    refine go_once ?_
    (refine AX.go0 (And.intro g7 hz) ?_)
    exact ⟨_, le_refl _, by simpa [state0] using p1.tr (p2.tr (p3.tr (p4.tr (p5.tr (p6.tr p7)))))⟩
end AX
end Go.Proofs.YtdikbljgmpbpjaaGreatDoor

namespace Go.Proofs.YtdikbljgmpbpjaaGreatDoor
open Go.RowKit
set_option linter.unusedSimpArgs false
set_option linter.unusedVariables false
set_option maxHeartbeats 4000000
namespace AX
def c_stext : AX.AFn := ⟨9, .seq (.reg false [⟨some 2, .mv (.c (.bool false)), none, []⟩]) (.seq (.reg false [⟨some 3, .mv (.t 0), none, []⟩, ⟨some 4, .bin .neq (.t 3) (.c (.str [])), none, []⟩, ⟨some 5, .mv (.t 4), none, []⟩, ⟨some 6, .mv (.t 0), some (5, true), []⟩, ⟨some 7, .call 98 [.t 6], some (5, true), []⟩, ⟨some 8, .pick (.t 5) (.t 7) (.c (.bool false)), none, []⟩, ⟨some 2, .mv (.t 8), none, []⟩]) (.ret)), [.t 2]⟩
theorem h_stext : AX.compFn Tryz.prog 47 = some c_stext := by kernel_rfl
def c_scheck : AX.AFn := ⟨128, .seq (.reg false [⟨some 1, .box 26 (.t 0), none, []⟩, ⟨some 2, .mv (.c (.int .i64 0)), none, []⟩]) (.seq (.seq (.reg false [⟨some 11, .faddr 0 (.t 1), none, []⟩, ⟨some 12, .load false 1 (.t 11), none, []⟩, ⟨some 13, .call 47 [.t 12], none, []⟩, ⟨some 14, .un .not (.t 13), none, []⟩]) (.cond (.t 14) (.seq (.reg false [⟨some 2, .mv (.c (.int .i64 1)), none, []⟩]) (.ret)) (.skip))) (.seq (.seq (.reg false [⟨some 15, .faddr 1 (.t 1), none, []⟩, ⟨some 16, .load false 1 (.t 15), none, []⟩, ⟨some 17, .bin .lss (.t 16) (.c (.int .i64 0)), none, []⟩, ⟨some 18, .mv (.t 17), none, []⟩, ⟨some 19, .faddr 1 (.t 1), some (18, false), []⟩, ⟨some 20, .load false 1 (.t 19), some (18, false), []⟩, ⟨some 21, .bin .gtr (.t 20) (.c (.int .i64 9007199254740992)), some (18, false), []⟩, ⟨some 22, .pick (.t 18) (.c (.bool true)) (.t 21), none, []⟩]) (.cond (.t 22) (.seq (.reg false [⟨some 2, .mv (.c (.int .i64 5)), none, []⟩]) (.ret)) (.skip))) (.seq (.seq (.reg false [⟨some 23, .faddr 2 (.t 1), none, []⟩, ⟨some 24, .load false 1 (.t 23), none, []⟩, ⟨some 25, .len false (.t 24), none, []⟩, ⟨some 26, .faddr 3 (.t 1), none, []⟩, ⟨some 27, .load false 1 (.t 26), none, []⟩, ⟨some 28, .len false (.t 27), none, []⟩, ⟨some 29, .faddr 4 (.t 1), none, []⟩, ⟨some 30, .load false 1 (.t 29), none, []⟩, ⟨some 31, .len false (.t 30), none, []⟩, ⟨some 32, .max3 (.t 25) (.t 28) (.t 31), none, []⟩, ⟨some 33, .bin .gtr (.t 32) (.c (.int .i64 512)), none, []⟩]) (.cond (.t 33) (.seq (.reg false [⟨some 2, .mv (.c (.int .i64 14)), none, []⟩]) (.ret)) (.skip))) (.seq (.seq (.reg false [⟨some 34, .faddr 2 (.t 1), none, []⟩, ⟨some 35, .load false 1 (.t 34), none, []⟩, ⟨some 36, .len false (.t 35), none, []⟩, ⟨some 37, .mv (.c (.int .i64 0)), none, []⟩]) (.block 0 (.loop (.seq (.reg false [⟨some 38, .bin .lss (.t 37) (.t 36), none, []⟩]) (.seq (.cond (.t 38) (.skip) (.exit 0)) (.seq (.block 1 (.seq (.reg false [⟨some 39, .mv (.t 37), none, []⟩, ⟨some 40, .iaddr 13 (.t 35) (.t 37), none, []⟩, ⟨some 41, .load true 13 (.t 40), none, []⟩, ⟨some 4, .alloc 63 [.str [], .str [], .str [], .str [], .int .i64 0, .int .i64 0, .str [], .sl 0 .nil [], .sl 0 .nil [], .int .i64 0, .bool false, .bool false, .sl 0 .nil []], none, []⟩, ⟨some 3, .mv (.t 39), none, []⟩, ⟨none, .store 13 (.t 4) (.t 41), none, []⟩]) (.seq (.seq (.reg false [⟨some 42, .load true 13 (.t 4), none, []⟩, ⟨some 43, .call 48 [.t 42], none, []⟩, ⟨some 5, .mv (.t 43), none, []⟩]) (.seq (.reg false [⟨some 44, .mv (.t 5), none, []⟩, ⟨some 45, .bin .neq (.t 44) (.c (.int .i64 0)), none, []⟩]) (.cond (.t 45) (.seq (.reg false [⟨some 46, .mv (.t 5), none, []⟩, ⟨some 2, .mv (.t 46), none, []⟩]) (.ret)) (.skip)))) (.seq (.reg true [⟨some 47, .mv (.t 3), none, []⟩, ⟨some 48, .bin .gtr (.t 47) (.c (.int .i64 0)), none, [0]⟩, ⟨some 49, .mv (.t 48), none, [1]⟩, ⟨some 50, .faddr 2 (.t 1), some (49, true), [2]⟩, ⟨some 51, .load false 1 (.t 50), some (49, true), [3, 2]⟩, ⟨some 52, .mv (.t 3), some (49, true), [2]⟩, ⟨some 53, .bin .sub (.t 52) (.c (.int .i64 1)), some (49, true), [5, 2]⟩, ⟨some 54, .iaddr 13 (.t 51) (.t 53), some (49, true), [4, 6, 2]⟩, ⟨some 55, .load true 13 (.t 54), some (49, true), [7, 2]⟩, ⟨some 56, .call 49 [.t 55], some (49, true), [8, 2, 2]⟩, ⟨some 57, .load true 13 (.t 4), some (49, true), [2]⟩, ⟨some 58, .call 49 [.t 57], some (49, true), [10, 9, 2]⟩, ⟨some 59, .call 50 [.t 56, .t 58], some (49, true), [9, 11, 11, 2]⟩, ⟨some 60, .bin .geq (.t 59) (.c (.int .i64 0)), some (49, true), [12, 2]⟩, ⟨some 61, .pick (.t 49) (.t 60) (.c (.bool false)), none, [2, 13]⟩]) (.cond (.t 61) (.seq (.reg false [⟨some 2, .mv (.c (.int .i64 1)), none, []⟩]) (.ret)) (.skip)))))) (.reg false [⟨some 62, .bin .add (.t 37) (.c (.int .i64 1)), none, []⟩, ⟨some 37, .mv (.t 62), none, []⟩]))))))) (.seq (.seq (.reg false [⟨some 63, .faddr 3 (.t 1), none, []⟩, ⟨some 64, .load false 1 (.t 63), none, []⟩, ⟨some 65, .len false (.t 64), none, []⟩, ⟨some 66, .mv (.c (.int .i64 0)), none, []⟩]) (.block 2 (.loop (.seq (.reg false [⟨some 67, .bin .lss (.t 66) (.t 65), none, []⟩]) (.seq (.cond (.t 67) (.skip) (.exit 2)) (.seq (.block 3 (.seq (.reg false [⟨some 68, .mv (.t 66), none, []⟩, ⟨some 69, .iaddr 3 (.t 64) (.t 66), none, []⟩, ⟨some 70, .load true 3 (.t 69), none, []⟩, ⟨some 7, .alloc 81 [.str [], .str [], .str []], none, []⟩, ⟨some 6, .mv (.t 68), none, []⟩, ⟨none, .store 3 (.t 7) (.t 70), none, []⟩]) (.seq (.reg true [⟨some 71, .faddr 2 (.t 7), none, []⟩, ⟨some 72, .load false 1 (.t 71), none, [0]⟩, ⟨some 73, .call 47 [.t 72], none, [1]⟩, ⟨some 74, .un .not (.t 73), none, [2]⟩, ⟨some 75, .mv (.t 74), none, [3, 2]⟩, ⟨some 76, .faddr 0 (.t 7), some (75, false), [4]⟩, ⟨some 77, .load false 1 (.t 76), some (75, false), [5, 4]⟩, ⟨some 78, .faddr 1 (.t 7), some (75, false), [4]⟩, ⟨some 79, .load false 1 (.t 78), some (75, false), [7, 4]⟩, ⟨some 80, .call 51 [.t 77, .t 79], some (75, false), [6, 8, 4, 4]⟩, ⟨some 81, .un .not (.t 80), some (75, false), [9, 4]⟩, ⟨some 82, .pick (.t 75) (.c (.bool true)) (.t 81), none, [4, 10]⟩, ⟨some 83, .mv (.t 82), none, [11, 9]⟩, ⟨some 84, .mv (.t 6), some (83, false), [12]⟩, ⟨some 85, .bin .gtr (.t 84) (.c (.int .i64 0)), some (83, false), [13, 12]⟩, ⟨some 86, .mv (.t 85), some (83, false), [14, 12, 12]⟩, ⟨some 87, .faddr 3 (.t 1), some (86, true), [15]⟩, ⟨some 88, .load false 1 (.t 87), some (86, true), [16, 15]⟩, ⟨some 89, .mv (.t 6), some (86, true), [15]⟩, ⟨some 90, .bin .sub (.t 89) (.c (.int .i64 1)), some (86, true), [18, 15]⟩, ⟨some 91, .iaddr 3 (.t 88) (.t 90), some (86, true), [17, 19, 15]⟩, ⟨some 92, .faddr 2 (.t 91), some (86, true), [20, 15]⟩, ⟨some 93, .load false 1 (.t 92), some (86, true), [21, 15]⟩, ⟨some 94, .faddr 2 (.t 7), some (86, true), [15]⟩, ⟨some 95, .load false 1 (.t 94), some (86, true), [23, 15]⟩, ⟨some 96, .bin .geq (.t 93) (.t 95), some (86, true), [22, 24, 15]⟩, ⟨some 97, .pick (.t 86) (.t 96) (.c (.bool false)), some (83, false), [15, 25, 12]⟩, ⟨some 98, .pick (.t 83) (.c (.bool true)) (.t 97), none, [12, 26]⟩]) (.cond (.t 98) (.seq (.reg false [⟨some 2, .mv (.c (.int .i64 1)), none, []⟩]) (.ret)) (.skip))))) (.reg false [⟨some 99, .bin .add (.t 66) (.c (.int .i64 1)), none, []⟩, ⟨some 66, .mv (.t 99), none, []⟩]))))))) (.seq (.seq (.reg false [⟨some 100, .faddr 4 (.t 1), none, []⟩, ⟨some 101, .load false 1 (.t 100), none, []⟩, ⟨some 102, .len false (.t 101), none, []⟩, ⟨some 103, .mv (.c (.int .i64 0)), none, []⟩]) (.block 4 (.loop (.seq (.reg false [⟨some 104, .bin .lss (.t 103) (.t 102), none, []⟩]) (.seq (.cond (.t 104) (.skip) (.exit 4)) (.seq (.block 5 (.seq (.reg false [⟨some 105, .mv (.t 103), none, []⟩, ⟨some 106, .iaddr 7 (.t 101) (.t 103), none, []⟩, ⟨some 107, .load true 7 (.t 106), none, []⟩, ⟨some 9, .alloc 83 [.str [], .int .i64 0, .int .i64 0, .str [], .sl 0 .nil [], .sl 0 .nil [], .bool false], none, []⟩, ⟨some 8, .mv (.t 105), none, []⟩, ⟨none, .store 7 (.t 9) (.t 107), none, []⟩]) (.seq (.seq (.reg false [⟨some 108, .load true 7 (.t 9), none, []⟩, ⟨some 109, .call 52 [.t 108], none, []⟩, ⟨some 10, .mv (.t 109), none, []⟩]) (.seq (.reg false [⟨some 110, .mv (.t 10), none, []⟩, ⟨some 111, .bin .neq (.t 110) (.c (.int .i64 0)), none, []⟩]) (.cond (.t 111) (.seq (.reg false [⟨some 112, .mv (.t 10), none, []⟩, ⟨some 2, .mv (.t 112), none, []⟩]) (.ret)) (.skip)))) (.seq (.reg true [⟨some 113, .mv (.t 8), none, []⟩, ⟨some 114, .bin .gtr (.t 113) (.c (.int .i64 0)), none, [0]⟩, ⟨some 115, .mv (.t 114), none, [1]⟩, ⟨some 116, .faddr 4 (.t 1), some (115, true), [2]⟩, ⟨some 117, .load false 1 (.t 116), some (115, true), [3, 2]⟩, ⟨some 118, .mv (.t 8), some (115, true), [2]⟩, ⟨some 119, .bin .sub (.t 118) (.c (.int .i64 1)), some (115, true), [5, 2]⟩, ⟨some 120, .iaddr 7 (.t 117) (.t 119), some (115, true), [4, 6, 2]⟩, ⟨some 121, .faddr 0 (.t 120), some (115, true), [7, 2]⟩, ⟨some 122, .load false 1 (.t 121), some (115, true), [8, 2]⟩, ⟨some 123, .faddr 0 (.t 9), some (115, true), [2]⟩, ⟨some 124, .load false 1 (.t 123), some (115, true), [10, 2]⟩, ⟨some 125, .bin .geq (.t 122) (.t 124), some (115, true), [9, 11, 2]⟩, ⟨some 126, .pick (.t 115) (.t 125) (.c (.bool false)), none, [2, 12]⟩]) (.cond (.t 126) (.seq (.reg false [⟨some 2, .mv (.c (.int .i64 1)), none, []⟩]) (.ret)) (.skip)))))) (.reg false [⟨some 127, .bin .add (.t 103) (.c (.int .i64 1)), none, []⟩, ⟨some 103, .mv (.t 127), none, []⟩]))))))) (.seq (.reg false [⟨some 2, .mv (.c (.int .i64 0)), none, []⟩]) (.ret)))))))), [.t 2]⟩
theorem h_scheck : AX.compFn Tryz.prog 20 = some c_scheck := by kernel_rfl

theorem a_stext (s : List UInt8) (hs : s.length ≤ 1000000) (h : Hp) : ACall Tryz.prog GT 47 [.str s] h fun r h' => r = .bool (s != [] && Str.valid s) ∧ h' = h := by
  refine pcall ?_ rfl (by simp [A.pure, A.data]) h
  refine acall_of mixedT h_stext (by simp [c_stext]) ?_
  dsimp only [c_stext]
  rcases bool_or (s != []) with h1 | h1
  · (refine AX.go0 h1 ?_)
    (refine AX.gc0 h1 ?_)
    refine (a_valid s hs _).mono ?_
    rintro v h1' ⟨rfl, rfl⟩
    (refine AX.go0 h1 ?_)
    exact ⟨_, le_refl _, by rw [tupA_1, h1]; rfl⟩
  · (refine AX.go0 h1 ?_)
    exact ⟨_, le_refl _, by rw [tupA_1, h1]; rfl⟩
theorem a_scheck0 (s : List UInt8) (n : Int) (hs : s.length ≤ 1000000) (hv : (s != [] && Str.valid s) = true) (h0 : 0 ≤ n) (h1 : n ≤ 9007199254740992) (h : Hp) : ACall Tryz.prog GT 20 [.agg [.str s, .int .i64 n, .sl 13 .no [], .sl 3 .no [], .sl 7 .no []]] h fun r h' => r = .int .i64 0 ∧ h' = h := by
  refine pcall ?_ rfl (by simp [A.pure, A.data]) h
  refine acall_of mixedT h_scheck (by simp [c_scheck]) ?_
  dsimp only [c_scheck]
  (refine AX.go0 True.intro ?_)
  (refine AX.gc0 True.intro ?_)
  refine (a_stext s hs _).mono ?_
  rintro v h1' ⟨rfl, rfl⟩
  rw [hv]
  have e1 : ¬ n < 0 := by omega
  have e2 : ¬ n > 9007199254740992 := by omega
  have hz : ¬ (0 : Int) < ((0 : Nat) : Int) := by decide
  have hg : ¬ ((0 : Nat) : Int) > ((0 : Nat) : Int) := by decide
  have hg2 : ¬ ((0 : Nat) : Int) > 512 := by decide
  (refine AX.go0 (And.intro e1 (And.intro e2 (And.intro hg hg2))) ?_)
  refine go_once ?_
  (refine AX.go0 hz ?_)
  refine go_once ?_
  (refine AX.go0 hz ?_)
  refine go_once ?_
  (refine AX.go0 hz ?_)
  exact ⟨_, le_refl _, rfl⟩
end AX
end Go.Proofs.YtdikbljgmpbpjaaGreatDoor

namespace Go.Proofs.YtdikbljgmpbpjaaGreatDoor
open Go.RowKit
set_option linter.unusedSimpArgs false
set_option linter.unusedVariables false
mutual
/-- The cells of a datum. -/
def D.cells : D → List AX.A
  | .int k n => [.int k n]
  | .str l => [.str l]
  | .bool b => [.bool b]
  | .agg l => D.cellsL l
  | .sl W l => [.sl W .no (D.rows l)]
def D.cellsL : List D → List AX.A
  | [] => []
  | d :: l => d.cells ++ D.cellsL l
def D.rows : List D → List (List AX.A)
  | [] => []
  | d :: l => d.cells :: D.rows l
end
theorem D.rows_length : ∀ l : List D, (D.rows l).length = l.length
  | [] => by simp [D.rows]
  | d :: l => by simp [D.rows, D.rows_length l]
mutual
theorem D.cells_data : ∀ (d : D) (x : AX.A), x ∈ d.cells → x.data = true
  | .int k n, x, h => by unfold D.cells at h; simp at h; subst h; rfl
  | .str l, x, h => by unfold D.cells at h; simp at h; subst h; rfl
  | .bool b, x, h => by unfold D.cells at h; simp at h; subst h; rfl
  | .agg l, x, h => by unfold D.cells at h; exact D.cellsL_data l x h
  | .sl W l, x, h => by unfold D.cells at h; simp at h; subst h; rfl
theorem D.cellsL_data : ∀ (l : List D) (x : AX.A), x ∈ D.cellsL l → x.data = true
  | [], x, h => by unfold D.cellsL at h; simp at h
  | d :: l, x, h => by
    unfold D.cellsL at h
    rcases List.mem_append.1 h with h | h
    · exact D.cells_data d x h
    · exact D.cellsL_data l x h
end
namespace AX
theorem repL_app2 {C : Ctx} : ∀ {l m : List A} {cs ds : List Value}, RepL C l cs → RepL C m ds → RepL C (l ++ m) (cs ++ ds)
  | [], m, cs, ds, h, k => by
    rw [repL_nil] at h; subst h
    exact k
  | x :: l, m, cs, ds, h, k => by
    obtain ⟨c, cs', rfl, h1, h2⟩ := repL_cons.1 h
    exact repL_cons.2 ⟨c, cs' ++ ds, rfl, h1, repL_app2 h2 k⟩
theorem repAt_of2 {C : Ctx} {g : Nat} (hS : ∀ j, C.S g j) : ∀ (l : List A) (c : List Value) (o : Nat), RepL C l c → (∀ x ∈ l, x.data = true) → (∀ j, j < l.length → C.w.cell? ⟨g, o + j, none⟩ = c[j]?) → RepAt C l g o
  | [], c, o, h, hd, hc => by unfold RepAt; trivial
  | x :: l, c, o, h, hd, hc => by
    obtain ⟨v, c', rfl, h1, h2⟩ := repL_cons.1 h
    unfold RepAt
    refine ⟨⟨hS o, hd x (by simp), v, by simpa using hc 0 (by simp), h1⟩, repAt_of2 hS l c' (o + 1) h2 (fun y hy => hd y (by simp [hy])) fun j hj => ?_⟩
    have := hc (j + 1) (by simpa using hj)
    rw [show o + 1 + j = o + (j + 1) by omega]
    simpa using this
mutual
theorem rd_rep {C : Ctx} {S : Nat → Prop} (hS : ∀ g, S g → ∀ j, C.S g j) : ∀ (d : D) (cs : List Value), Rd C.w S d cs → RepL C d.cells cs
  | .int k n, cs, h => by unfold Rd at h; unfold D.cells; subst h; exact repL_cons.2 ⟨_, _, rfl, rep_int.2 rfl, repL_nil.2 rfl⟩
  | .str l, cs, h => by unfold Rd at h; unfold D.cells; subst h; exact repL_cons.2 ⟨_, _, rfl, rep_str.2 rfl, repL_nil.2 rfl⟩
  | .bool b, cs, h => by unfold Rd at h; unfold D.cells; subst h; exact repL_cons.2 ⟨_, _, rfl, rep_bool.2 rfl, repL_nil.2 rfl⟩
  | .agg l, cs, h => by unfold Rd at h; unfold D.cells; exact rdAgg_rep hS l cs h
  | .sl W l, cs, h => by
    unfold Rd at h; unfold D.cells
    obtain ⟨a, cap, rfl, h1, h2⟩ := h
    refine repL_cons.2 ⟨_, _, rfl, rep_sl.2 ⟨a, cap, by rw [D.rows_length], by rw [D.rows_length]; exact h1, rdRow_rep hS W l a 0 h2, trivial⟩, repL_nil.2 rfl⟩
theorem rdAgg_rep {C : Ctx} {S : Nat → Prop} (hS : ∀ g, S g → ∀ j, C.S g j) : ∀ (l : List D) (cs : List Value), RdAgg C.w S l cs → RepL C (D.cellsL l) cs
  | [], cs, h => by unfold RdAgg at h; unfold D.cellsL; exact repL_nil.2 h
  | d :: l, cs, h => by
    unfold RdAgg at h; unfold D.cellsL
    obtain ⟨c1, c2, rfl, h1, h2⟩ := h
    exact repL_app2 (rd_rep hS d c1 h1) (rdAgg_rep hS l c2 h2)
theorem rdRow_rep {C : Ctx} {S : Nat → Prop} (hS : ∀ g, S g → ∀ j, C.S g j) (W : Nat) : ∀ (l : List D) (a : Option Addr) (i : Nat), RdRow C.w S W l a i → RepRows C W (D.rows l) a i
  | [], a, i, h => by unfold D.rows RepRows; trivial
  | d :: l, a, i, h => by
    unfold RdRow at h; unfold D.rows RepRows
    obtain ⟨⟨g, off, c, h1, h2, h3, h4, h5⟩, h6⟩ := h
    have hr := rd_rep hS d c h5
    have hl := repL_length hr
    refine ⟨⟨g, off, h1, by omega, repAt_of2 (hS g h2) d.cells c _ hr (D.cells_data d) fun j hj => h4 j (by omega)⟩, rdRow_rep hS W l a (i + 1) h6⟩
end
/-- The context of a call that has no boxes: what is there, nobody writes. -/
def Ctx.of (w : World) : Ctx := { w := w, S := fun g _ => g < w.heap.size, κ := fun _ => 0, nb := 0, τ := fun _ => 0, hw := fun _ => none, own := fun _ => none, base := w.heap.size }
theorem inv_of {G : World → Prop} {w : World} (hG : ∀ w' : World, (∀ g, g < w.heap.size → w'.heap[g]? = w.heap[g]?) → G w') : Inv G (Ctx.of w) ⟨[], []⟩ where
  nb := rfl
  box := fun i b h => by simp at h
  ownk := fun i h => by simp [Ctx.of] at h
  ownlt := fun g i h => by simp [Ctx.of] at h
  prot := fun g j h => ⟨h, rfl, fun t E W m ht => by simp [Ctx.of] at ht⟩
  rows := fun t E W m h => by simp [Ctx.of] at h
  inj := fun t t' h => by simp [Ctx.of] at h
  toks := fun t => by simp [Ctx.of]
  base := Nat.le_refl _
  glob := hG
theorem rd_of {w : World} {d : D} {cs : List Value} (h : Rd w (Old w) d cs) : RepL (Ctx.of w) d.cells cs := rd_rep (C := Ctx.of w) (S := Old w) (fun g hg j => hg) d cs h
/-- A call that answers true, from any world. -/
theorem calls_of {P : Program} {G : World → Prop} {f : FuncId} {args : List A} {vs : List Value} {w : World} (hc : ACall P G f args ⟨[], []⟩ fun v _ => v = .bool true) (hG : ∀ w' : World, (∀ g, g < w.heap.size → w'.heap[g]? = w.heap[g]?) → G w')
    (ha : RepL (Ctx.of w) args vs) : Calls P f vs.toArray w fun e w' => e = .returned (.bool true) ∧ Below w.heap.size w w' := by
  refine (hc (Ctx.of w) vs (inv_of hG) ha).mono ?_
  rintro e w' ⟨C', h', v, cv, rfl, rfl, _, st, hr, rfl⟩
  rw [rep_bool] at hr; subst hr
  exact ⟨rfl, st.os, st.tape, st.output, st.size, fun g hg => st.frame g hg rfl fun t ht => by simp [Ctx.of] at ht⟩
theorem tabs_keep {a b : Nat} {w : World} (h : Lib.Utf8Tabs a b w) : ∀ w' : World, (∀ g, g < w.heap.size → w'.heap[g]? = w.heap[g]?) → Lib.Utf8Tabs a b w' := by
  intro w' hw
  have hlt : ∀ {g j : Nat} {v : Value}, w.cell? ⟨g, j, none⟩ = some v → g < w.heap.size := fun {g j v} h => (cell_there h).2
  have hc : ∀ {g j : Nat} {v : Value}, w.cell? ⟨g, j, none⟩ = some v → w'.cell? ⟨g, j, none⟩ = some v := fun {g j v} h => by
    rw [← h]; simp only [World.cell?, hw g (hlt h)]
  exact ⟨fun c hcl => hc (h.1 c hcl), fun i hi => ⟨hc (h.2 i hi).1, hc (h.2 i hi).2⟩⟩
end AX
end Go.Proofs.YtdikbljgmpbpjaaGreatDoor

namespace Go.Proofs.YtdikbljgmpbpjaaGreatDoor
open Go.RowKit Go.ChangeShapes Go.WideShapes
set_option linter.unusedSimpArgs false
set_option linter.unusedVariables false
theorem strs_rows : ∀ ks : List (List UInt8), D.rows (ks.map .str) = strsA ks
  | [] => by simp [D.rows, strsA]
  | k :: ks => by
    have := strs_rows ks
    simp only [List.map_cons, D.rows, D.cells, this]
    rfl
mutual
theorem V.cells_toD : ∀ v : V, v.toD.cells = v.cells
  | .mk k n s is ks => by
    unfold V.toD V.cells
    simp only [D.cells, D.cellsL, List.cons_append, List.nil_append, List.append_nil, V.rows_toDs is, strs_rows]
theorem V.rows_toDs : ∀ l : List V, D.rows (V.toDs l) = V.cellss l
  | [] => by unfold V.toDs D.rows V.cellss; rfl
  | v :: l => by unfold V.toDs D.rows V.cellss; rw [V.cells_toD v, V.rows_toDs l]
end
mutual
theorem V.Wf.lens : ∀ v : V, v.Wf → v.lens
  | .mk k n s is ks, h => by
    unfold V.Wf at h; unfold V.lens
    exact ⟨h.1.2.2.2.1, h.1.2.2.2.2.1, h.1.2.2.1, h.1.2.2.2.2.2, V.Wfs.lens is h.2⟩
theorem V.Wfs.lens : ∀ l : List V, V.Wfs l → V.lensS l
  | [], h => by unfold V.lensS; trivial
  | v :: l, h => by
    unfold V.Wfs at h; unfold V.lensS
    exact ⟨V.Wf.lens v h.1, V.Wfs.lens l h.2⟩
end
namespace AX
theorem gt_keep {w : World} (g : GT w) : ∀ w' : World, (∀ g, g < w.heap.size → w'.heap[g]? = w.heap[g]?) → GT w' := fun w' hw => by
  have hi : ∀ {n : Nat}, IfaceAt n w → IfaceAt n w' := fun ⟨ev, h1, h2⟩ => ⟨ev, by rw [← h1]; simp only [World.cell?, hw _ (cell_there h1).2], h2⟩
  exact ⟨tabs_keep g.tabs w' hw, hi g.esyn, hi g.erng⟩
theorem str_list (a : ByteArray) : Value.string a = .string ⟨a.data.toList.toArray⟩ := by simp
def kVal : List TypeId := [43, 39, 3, 9, 40, 41]
theorem kVal_plain : plainAll Tryz.prog kVal = true := by kernel_rfl
section
variable {H : Type} {enc : TypeId × Value → H} {w : World} {base : Nat} {spare : Nat → Bool} {held : Bool} {r : Reach} {b0 : Nat} {v : Value} {d : DataW H} {p : List MemPlace}
set_option maxRecDepth 100000 in
theorem arg_data {K : List TypeId} {t : TypeId} {fs : Array Field} (hK : plainAll Tryz.prog K = true) (ht : t ∈ K) (hu : Tryz.prog.underlying t = some (.struct fs)) (hval : Value.okWide Tryz.prog w r b0 t v) (h : DataW.Trod enc Tryz.prog w base spare held t v d p) :
    ∃ x : D, Conf Tryz.prog x t ∧ Rep (Ctx.of w) (.agg x.cells) v := by
  obtain ⟨cs, rfl, _⟩ := okWide_struct hu hval
  obtain ⟨fuel, hf⟩ := h
  obtain ⟨x, h1, h2⟩ := trod_rd hK fuel t ht _ _ hf
  exact ⟨x, h2, rep_agg.2 ⟨cs.toList, by simp, rd_of h1⟩⟩
set_option maxRecDepth 100000 in
theorem arg_conf_val (hval : Value.okWide Tryz.prog w r b0 43 v) (h : DataW.Trod enc Tryz.prog w base spare held 43 v d p) :
    ∃ (x : V) (_ : x.Wf), Rep (Ctx.of w) x.A v := by
  obtain ⟨x, h1, h2⟩ := arg_data kVal_plain (by decide) Tryz.underlying43 hval h
  obtain ⟨y, rfl, h3⟩ := conf_val h1
  rw [V.cells_toD] at h2
  exact ⟨y, h3, h2⟩
end
end AX
end Go.Proofs.YtdikbljgmpbpjaaGreatDoor

namespace Go.Proofs.YtdikbljgmpbpjaaGreatDoor
open Go.RowKit
set_option linter.unusedSimpArgs false
set_option linter.unusedVariables false
set_option maxHeartbeats 4000000
namespace AX
def c_encode : AX.AFn := ⟨29, .seq (.reg false [⟨some 2, .box 26 (.t 0), none, []⟩, ⟨some 4, .mv (.c (.str [])), none, []⟩, ⟨some 5, .mv (.c (.int .i64 0)), none, []⟩]) (.seq (.seq (.reg false [⟨some 8, .load true 5 (.t 2), none, []⟩, ⟨some 9, .call 20 [.t 8], none, []⟩, ⟨some 6, .mv (.t 9), none, []⟩]) (.seq (.reg false [⟨some 10, .mv (.t 6), none, []⟩, ⟨some 11, .bin .neq (.t 10) (.c (.int .i64 0)), none, []⟩]) (.cond (.t 11) (.seq (.reg false [⟨some 12, .mv (.t 6), none, []⟩, ⟨some 4, .mv (.c (.str [])), none, []⟩, ⟨some 5, .mv (.t 12), none, []⟩]) (.ret)) (.skip)))) (.seq (.reg false [⟨some 13, .mv (.t 1), none, []⟩, ⟨some 14, .build [.nilp, .sl 0 .nil [], .int .i64 0] [(2, 1, .t 13)], none, []⟩, ⟨some 15, .box 99 (.t 14), none, []⟩, ⟨some 7, .mv (.t 15), none, []⟩]) (.seq (.reg false [⟨some 16, .mv (.t 7), none, []⟩, ⟨some 17, .load true 5 (.t 2), none, []⟩, ⟨some 18, .call 70 [.t 16, .t 17], none, []⟩]) (.seq (.seq (.reg false [⟨some 19, .mv (.t 7), none, []⟩, ⟨some 20, .nilck (.t 19), none, []⟩, ⟨some 21, .faddr 0 (.t 20), none, []⟩, ⟨some 22, .call 71 [.t 21], none, []⟩, ⟨some 23, .bin .gtr (.t 22) (.c (.int .i64 1048572)), none, []⟩]) (.cond (.t 23) (.seq (.reg false [⟨some 4, .mv (.c (.str [])), none, []⟩, ⟨some 5, .mv (.c (.int .i64 3)), none, []⟩]) (.ret)) (.skip))) (.seq (.reg false [⟨some 24, .mv (.t 7), none, []⟩, ⟨some 25, .nilck (.t 24), none, []⟩, ⟨some 26, .faddr 0 (.t 25), none, []⟩, ⟨some 27, .call 57 [.t 26], none, []⟩, ⟨some 28, .call 72 [.t 27], none, []⟩, ⟨some 4, .mv (.t 28), none, []⟩, ⟨some 5, .mv (.c (.int .i64 0)), none, []⟩]) (.ret)))))), [.t 4, .t 5]⟩
theorem h_encode : AX.compFn Tryz.prog 36 = some c_encode := by kernel_rfl
def c_Encode : AX.AFn := ⟨8, .seq (.reg false [⟨some 1, .box 26 (.t 0), none, []⟩, ⟨some 2, .mv (.c (.str [])), none, []⟩, ⟨some 3, .mv (.c (.int .i64 0)), none, []⟩]) (.seq (.reg false [⟨some 4, .load true 5 (.t 1), none, []⟩, ⟨some 5, .call 36 [.t 4, .c (.int .i64 2)], none, []⟩, ⟨some 6, .extract (.t 5) 0, none, []⟩, ⟨some 7, .extract (.t 5) 1, none, []⟩, ⟨some 2, .mv (.t 6), none, []⟩, ⟨some 3, .mv (.t 7), none, []⟩]) (.ret)), [.t 2, .t 3]⟩
theorem h_Encode : AX.compFn Tryz.prog 11 = some c_Encode := by kernel_rfl
def c_EncodeOld : AX.AFn := ⟨8, .seq (.reg false [⟨some 1, .box 26 (.t 0), none, []⟩, ⟨some 2, .mv (.c (.str [])), none, []⟩, ⟨some 3, .mv (.c (.int .i64 0)), none, []⟩]) (.seq (.reg false [⟨some 4, .load true 5 (.t 1), none, []⟩, ⟨some 5, .call 36 [.t 4, .c (.int .i64 1)], none, []⟩, ⟨some 6, .extract (.t 5) 0, none, []⟩, ⟨some 7, .extract (.t 5) 1, none, []⟩, ⟨some 2, .mv (.t 6), none, []⟩, ⟨some 3, .mv (.t 7), none, []⟩]) (.ret)), [.t 2, .t 3]⟩
theorem h_EncodeOld : AX.compFn Tryz.prog 13 = some c_EncodeOld := by kernel_rfl
def c_Decode : AX.AFn := ⟨64, .seq (.reg false [⟨some 2, .alloc 26 [.str [], .int .i64 0, .sl 0 .nil [], .sl 0 .nil [], .sl 0 .nil []], none, []⟩, ⟨some 3, .mv (.c (.int .i64 0)), none, []⟩]) (.seq (.seq (.reg false [⟨some 9, .mv (.t 0), none, []⟩, ⟨some 10, .len true (.t 9), none, []⟩, ⟨some 11, .bin .gtr (.t 10) (.c (.int .i64 1048576)), none, []⟩]) (.cond (.t 11) (.seq (.reg false [⟨some 12, .build [.str [], .int .i64 0, .sl 0 .nil [], .sl 0 .nil [], .sl 0 .nil []] [], none, []⟩, ⟨none, .store 5 (.t 2) (.t 12), none, []⟩, ⟨some 3, .mv (.c (.int .i64 3)), none, []⟩]) (.ret)) (.skip))) (.seq (.seq (.reg false [⟨some 13, .mv (.t 0), none, []⟩, ⟨some 14, .call 38 [.t 13, .c (.str [80, 86, 83, 84])], none, []⟩, ⟨some 15, .un .not (.t 14), none, []⟩]) (.cond (.t 15) (.seq (.reg false [⟨some 16, .build [.str [], .int .i64 0, .sl 0 .nil [], .sl 0 .nil [], .sl 0 .nil []] [], none, []⟩, ⟨none, .store 5 (.t 2) (.t 16), none, []⟩, ⟨some 3, .mv (.c (.int .i64 2)), none, []⟩]) (.ret)) (.skip))) (.seq (.reg false [⟨some 18, .mv (.t 0), none, []⟩, ⟨some 19, .call 39 [.t 18], none, []⟩, ⟨some 17, .mv (.t 19), none, []⟩, ⟨some 20, .extract (.t 17) 0, none, []⟩, ⟨some 21, .extract (.t 17) 1, none, []⟩, ⟨some 4, .mv (.t 20), none, []⟩, ⟨some 5, .mv (.t 21), none, []⟩]) (.seq (.seq (.reg false [⟨some 22, .mv (.t 5), none, []⟩, ⟨some 23, .bin .neq (.t 22) (.c (.int .i64 0)), none, []⟩]) (.cond (.t 23) (.seq (.reg false [⟨some 24, .build [.str [], .int .i64 0, .sl 0 .nil [], .sl 0 .nil [], .sl 0 .nil []] [], none, []⟩, ⟨none, .store 5 (.t 2) (.t 24), none, []⟩, ⟨some 3, .mv (.c (.int .i64 20)), none, []⟩]) (.ret)) (.skip))) (.seq (.reg false [⟨some 26, .mv (.t 4), none, []⟩, ⟨some 27, .call 17 [.t 26], none, []⟩, ⟨some 25, .mv (.t 27), none, []⟩, ⟨some 28, .extract (.t 25) 0, none, []⟩, ⟨some 29, .extract (.t 25) 1, none, []⟩, ⟨some 6, .mv (.t 28), none, []⟩, ⟨some 5, .mv (.t 29), none, []⟩]) (.seq (.seq (.reg false [⟨some 30, .mv (.t 5), none, []⟩, ⟨some 31, .bin .neq (.t 30) (.c (.int .i64 0)), none, []⟩]) (.cond (.t 31) (.seq (.reg false [⟨some 32, .build [.str [], .int .i64 0, .sl 0 .nil [], .sl 0 .nil [], .sl 0 .nil []] [], none, []⟩, ⟨some 33, .mv (.t 5), none, []⟩, ⟨none, .store 5 (.t 2) (.t 32), none, []⟩, ⟨some 3, .mv (.t 33), none, []⟩]) (.ret)) (.skip))) (.seq (.reg false [⟨some 34, .mv (.t 4), none, []⟩, ⟨some 35, .ssl (.t 34) (some (.c (.int .i64 4))) none, none, []⟩, ⟨some 36, .call 25 [.t 35], none, []⟩, ⟨some 37, .mv (.t 6), none, []⟩, ⟨some 38, .build [.nilp, .int .i64 0, .bool false] [(0, 1, .t 36), (1, 1, .t 37)], none, []⟩, ⟨some 39, .box 73 (.t 38), none, []⟩, ⟨some 7, .mv (.t 39), none, []⟩]) (.seq (.reg false [⟨some 40, .mv (.t 7), none, []⟩, ⟨some 41, .nilck (.t 40), none, []⟩, ⟨some 42, .faddr 0 (.t 41), none, []⟩, ⟨some 43, .load false 1 (.t 42), none, []⟩, ⟨some 44, .call 40 [.t 43], none, []⟩]) (.seq (.reg false [⟨some 45, .mv (.t 7), none, []⟩, ⟨some 46, .call 41 [.t 45], none, []⟩, ⟨some 8, .alloc 26 [.str [], .int .i64 0, .sl 0 .nil [], .sl 0 .nil [], .sl 0 .nil []], none, []⟩, ⟨none, .store 5 (.t 8) (.t 46), none, []⟩]) (.seq (.seq (.reg false [⟨some 47, .mv (.t 7), none, []⟩, ⟨some 48, .call 42 [.t 47], none, []⟩, ⟨some 49, .mv (.t 48), none, []⟩, ⟨some 50, .mv (.t 7), some (49, false), []⟩, ⟨some 51, .nilck (.t 50), some (49, false), []⟩, ⟨some 52, .faddr 0 (.t 51), some (49, false), []⟩, ⟨some 53, .load false 1 (.t 52), some (49, false), []⟩, ⟨some 54, .call 30 [.t 53], some (49, false), []⟩, ⟨some 55, .bin .gtr (.t 54) (.c (.int .i64 0)), some (49, false), []⟩, ⟨some 56, .pick (.t 49) (.c (.bool true)) (.t 55), none, []⟩, ⟨some 57, .mv (.t 56), none, []⟩, ⟨some 58, .load true 5 (.t 8), some (57, false), []⟩, ⟨some 59, .call 20 [.t 58], some (57, false), []⟩, ⟨some 60, .bin .neq (.t 59) (.c (.int .i64 0)), some (57, false), []⟩, ⟨some 61, .pick (.t 57) (.c (.bool true)) (.t 60), none, []⟩]) (.cond (.t 61) (.seq (.reg false [⟨some 62, .build [.str [], .int .i64 0, .sl 0 .nil [], .sl 0 .nil [], .sl 0 .nil []] [], none, []⟩, ⟨none, .store 5 (.t 2) (.t 62), none, []⟩, ⟨some 3, .mv (.c (.int .i64 2)), none, []⟩]) (.ret)) (.skip))) (.seq (.reg false [⟨some 63, .load true 5 (.t 8), none, []⟩, ⟨none, .store 5 (.t 2) (.t 63), none, []⟩, ⟨some 3, .mv (.c (.int .i64 0)), none, []⟩]) (.ret)))))))))))), [.c 2 true 5, .t 3]⟩
theorem h_Decode : AX.compFn Tryz.prog 15 = some c_Decode := by kernel_rfl
def c_awake : AX.AFn := ⟨91, .seq (.reg false [⟨some 0, .mv (.c (.bool false)), none, []⟩]) (.seq (.reg false [⟨some 14, .build [.str [], .int .i64 0, .sl 0 .nil [], .sl 0 .nil [], .sl 0 .nil []] [(0, 1, .c (.str [97])), (1, 1, .c (.int .i64 1))], none, []⟩, ⟨some 1, .alloc 26 [.str [], .int .i64 0, .sl 0 .nil [], .sl 0 .nil [], .sl 0 .nil []], none, []⟩, ⟨none, .store 5 (.t 1) (.t 14), none, []⟩]) (.seq (.reg false [⟨some 16, .load true 5 (.t 1), none, []⟩, ⟨some 17, .call 11 [.t 16], none, []⟩, ⟨some 15, .mv (.t 17), none, []⟩, ⟨some 18, .extract (.t 15) 0, none, []⟩, ⟨some 19, .extract (.t 15) 1, none, []⟩, ⟨some 2, .mv (.t 18), none, []⟩, ⟨some 3, .mv (.t 19), none, []⟩]) (.seq (.reg false [⟨some 21, .load true 5 (.t 1), none, []⟩, ⟨some 22, .call 13 [.t 21], none, []⟩, ⟨some 20, .mv (.t 22), none, []⟩, ⟨some 23, .extract (.t 20) 0, none, []⟩, ⟨some 24, .extract (.t 20) 1, none, []⟩, ⟨some 4, .mv (.t 23), none, []⟩, ⟨some 5, .mv (.t 24), none, []⟩]) (.seq (.reg false [⟨some 26, .call 15 [.c (.str [])], none, []⟩, ⟨some 25, .mv (.t 26), none, []⟩, ⟨some 27, .extract (.t 25) 0, none, []⟩, ⟨some 28, .extract (.t 25) 1, none, []⟩, ⟨some 6, .alloc 26 [.str [], .int .i64 0, .sl 0 .nil [], .sl 0 .nil [], .sl 0 .nil []], none, []⟩, ⟨none, .store 5 (.t 6) (.t 27), none, []⟩, ⟨some 7, .mv (.t 28), none, []⟩]) (.seq (.reg false [⟨some 30, .call 15 [.c (.str [80, 86, 83, 84])], none, []⟩, ⟨some 29, .mv (.t 30), none, []⟩, ⟨some 31, .extract (.t 29) 0, none, []⟩, ⟨some 32, .extract (.t 29) 1, none, []⟩, ⟨some 8, .alloc 26 [.str [], .int .i64 0, .sl 0 .nil [], .sl 0 .nil [], .sl 0 .nil []], none, []⟩, ⟨none, .store 5 (.t 8) (.t 31), none, []⟩, ⟨some 9, .mv (.t 32), none, []⟩]) (.seq (.reg false [⟨some 34, .mv (.t 2), none, []⟩, ⟨some 35, .call 17 [.t 34], none, []⟩, ⟨some 33, .mv (.t 35), none, []⟩, ⟨some 36, .extract (.t 33) 0, none, []⟩, ⟨some 37, .extract (.t 33) 1, none, []⟩, ⟨some 10, .mv (.t 36), none, []⟩, ⟨some 11, .mv (.t 37), none, []⟩]) (.seq (.reg false [⟨some 39, .call 17 [.c (.str [80, 86, 83, 84, 6])], none, []⟩, ⟨some 38, .mv (.t 39), none, []⟩, ⟨some 40, .extract (.t 38) 0, none, []⟩, ⟨some 41, .extract (.t 38) 1, none, []⟩, ⟨some 12, .mv (.t 40), none, []⟩, ⟨some 13, .mv (.t 41), none, []⟩]) (.seq (.seq (.reg false [⟨some 42, .mv (.t 3), none, []⟩, ⟨some 43, .bin .neq (.t 42) (.c (.int .i64 0)), none, []⟩, ⟨some 44, .mv (.t 43), none, []⟩, ⟨some 45, .mv (.t 5), some (44, false), []⟩, ⟨some 46, .bin .neq (.t 45) (.c (.int .i64 0)), some (44, false), []⟩, ⟨some 47, .pick (.t 44) (.c (.bool true)) (.t 46), none, []⟩, ⟨some 48, .mv (.t 47), none, []⟩, ⟨some 49, .mv (.t 2), some (48, false), []⟩, ⟨some 50, .len true (.t 49), some (48, false), []⟩, ⟨some 51, .bin .neq (.t 50) (.c (.int .i64 15)), some (48, false), []⟩, ⟨some 52, .pick (.t 48) (.c (.bool true)) (.t 51), none, []⟩, ⟨some 53, .mv (.t 52), none, []⟩, ⟨some 54, .mv (.t 4), some (53, false), []⟩, ⟨some 55, .len true (.t 54), some (53, false), []⟩, ⟨some 56, .bin .neq (.t 55) (.c (.int .i64 14)), some (53, false), []⟩, ⟨some 57, .pick (.t 53) (.c (.bool true)) (.t 56), none, []⟩]) (.cond (.t 57) (.seq (.reg false [⟨some 0, .mv (.c (.bool false)), none, []⟩]) (.ret)) (.skip))) (.seq (.reg false [⟨some 58, .mv (.t 2), none, []⟩, ⟨some 59, .ssl (.t 58) none (some (.c (.int .i64 11))), none, []⟩, ⟨some 60, .bin .eql (.t 59) (.c (.str [80, 86, 83, 84, 4, 2, 97, 2, 0, 0, 0])), none, []⟩, ⟨some 61, .mv (.t 60), none, []⟩, ⟨some 62, .mv (.t 4), some (61, true), []⟩, ⟨some 63, .sidx (.t 62) (.c (.int .i64 4)), some (61, true), []⟩, ⟨some 64, .bin .eql (.t 63) (.c (.int .u8 2)), some (61, true), []⟩, ⟨some 65, .pick (.t 61) (.t 64) (.c (.bool false)), none, []⟩, ⟨some 66, .mv (.t 65), none, []⟩, ⟨some 67, .mv (.t 7), some (66, true), []⟩, ⟨some 68, .bin .eql (.t 67) (.c (.int .i64 2)), some (66, true), []⟩, ⟨some 69, .pick (.t 66) (.t 68) (.c (.bool false)), none, []⟩, ⟨some 70, .mv (.t 69), none, []⟩, ⟨some 71, .mv (.t 9), some (70, true), []⟩, ⟨some 72, .bin .eql (.t 71) (.c (.int .i64 20)), some (70, true), []⟩, ⟨some 73, .pick (.t 70) (.t 72) (.c (.bool false)), none, []⟩, ⟨some 74, .mv (.t 73), none, []⟩, ⟨some 75, .mv (.t 10), some (74, true), []⟩, ⟨some 76, .bin .eql (.t 75) (.c (.int .i64 2)), some (74, true), []⟩, ⟨some 77, .pick (.t 74) (.t 76) (.c (.bool false)), none, []⟩, ⟨some 78, .mv (.t 77), none, []⟩, ⟨some 79, .mv (.t 11), some (78, true), []⟩, ⟨some 80, .bin .eql (.t 79) (.c (.int .i64 0)), some (78, true), []⟩, ⟨some 81, .pick (.t 78) (.t 80) (.c (.bool false)), none, []⟩, ⟨some 82, .mv (.t 81), none, []⟩, ⟨some 83, .mv (.t 13), some (82, true), []⟩, ⟨some 84, .bin .eql (.t 83) (.c (.int .i64 21)), some (82, true), []⟩, ⟨some 85, .pick (.t 82) (.t 84) (.c (.bool false)), none, []⟩, ⟨some 86, .mv (.t 85), none, []⟩, ⟨some 87, .build [.int .i64 0, .int .i64 0, .str [], .sl 0 .nil [], .sl 0 .nil []] [(0, 1, .c (.int .i64 1)), (1, 1, .c (.int .i64 1))], some (86, true), []⟩, ⟨some 88, .call 23 [.c (.str []), .t 87], some (86, true), []⟩, ⟨some 89, .bin .eql (.t 88) (.c (.str [2, 2])), some (86, true), []⟩, ⟨some 90, .pick (.t 86) (.t 89) (.c (.bool false)), none, []⟩, ⟨some 0, .mv (.t 90), none, []⟩]) (.ret)))))))))), [.t 0]⟩
theorem h_awake : AX.compFn Tryz.prog 10 = some c_awake := by kernel_rfl

theorem a_csAppend (s : List UInt8) (hs : s.length ≤ 1000000000) (h : Hp) : ACall Tryz.prog GT 72 [.str s] h fun v h' => v = .str (Crc.app s) ∧ h' = h :=
  acall_imp (args1 r_str) (fun w hg => append_any ⟨s.toArray⟩ w (by rw [size_mk]; exact hs)) (fun C => rep_str.2 rfl) h
theorem a_csVerify (s : List UInt8) (hs : s.length ≤ 1000000000) (h : Hp) : ACall Tryz.prog GT 39 [.str s] h fun v h' => v = .tup [.str (Crc.ver s).1, .int .i64 (Crc.ver s).2] ∧ h' = h :=
  acall_imp (args1 r_str) (fun w hg => verify_any ⟨s.toArray⟩ w (by rw [size_mk]; exact hs)) (fun C => rep_tup.2 ⟨_, rfl, repL_cons.2 ⟨_, _, rfl, rep_str.2 rfl, repL_cons.2 ⟨_, _, rfl, rep_int.2 rfl, repL_nil.2 rfl⟩⟩⟩) h
theorem state0_len (ver : Int) (s : List UInt8) (n : Int) : 4 ≤ (state0 ver s n).length ∧ (state0 ver s n).length ≤ s.length + 64 := by
  have l1 := num_len ver
  have l2 := num_len s.length
  have l3 := num_len n
  have l4 := num_len 0
  have l5 : (Wire.strE s).length = (Wire.num s.length).length + s.length := by unfold Wire.strE; rw [List.length_append]
  have l6 : magic.length = 4 := rfl
  unfold state0
  split <;> simp only [List.length_append, List.length_nil, l5, l6] <;> omega
theorem a_encode0 (ver : Int) (s : List UInt8) (n : Int) (hs : s.length ≤ 100000) (hv : (s != [] && Str.valid s) = true) (h0 : 0 ≤ n) (h1 : n ≤ 9007199254740992) (hver : ver = 1 ∨ ver = 2) (h : Hp) :
    ACall Tryz.prog GT 36 [.agg [.str s, .int .i64 n, .sl 0 .nil [], .sl 0 .nil [], .sl 0 .nil []], .int .i64 ver] h fun r h' => r = .tup [.str (Crc.app (state0 ver s n)), .int .i64 0] ∧ h' = h := by
  refine pcall ?_ rfl (by simp [A.pure, A.data]) h
  refine acall_of mixedT h_encode (by simp [c_encode]) ?_
  dsimp only [c_encode]
  have hl := state0_len ver s n
  have hg : ¬ ((state0 ver s n).length : Int) > 1048572 := by omega
  have hne : state0 ver s n ≠ [] := by intro e; rw [e] at hl; simp at hl
  (refine AX.go0 True.intro ?_)
  (refine AX.gc0 True.intro ?_)
  refine (a_scheck0 s n (by omega) hv h0 h1 _).args ?_ |>.mono ?_
  · exact ⟨⟨rfl, rfl, ⟨rfl, .inr rfl, .inl rfl⟩, ⟨rfl, .inr rfl, .inl rfl⟩, ⟨rfl, .inr rfl, .inl rfl⟩, trivial⟩, trivial⟩
  rintro v h' ⟨rfl, rfl⟩
  (refine AX.go0 True.intro ?_)
  (refine AX.gc0 True.intro ?_)
  refine (a_wstate0 (i := 1) (ver := ver) (.inr ⟨rfl, rfl⟩) s n (by omega) (by omega) (by omega) hver).mono ?_
  intro v h2 p2
  (refine AX.go0 True.intro ?_)
  (refine AX.gc0 True.intro ?_)
  refine (a_wlen p2.1).mono ?_
  rintro v h' ⟨rfl, rfl⟩
  (refine AX.go0 hg ?_)
  (refine AX.gc0 True.intro ?_)
  refine (a_wstring p2.1 hne).mono ?_
  rintro v h' ⟨rfl, rfl⟩
  (refine AX.go0 True.intro ?_)
  (refine AX.gc0 True.intro ?_)
  refine (a_csAppend _ (by omega) _).mono ?_
  rintro v h' ⟨rfl, rfl⟩
  (refine AX.go0 True.intro ?_)
  exact ⟨_, le_refl _, rfl⟩
theorem a_Encode0 (s : List UInt8) (n : Int) (hs : s.length ≤ 100000) (hv : (s != [] && Str.valid s) = true) (h0 : 0 ≤ n) (h1 : n ≤ 9007199254740992) (h : Hp) :
    ACall Tryz.prog GT 11 [.agg [.str s, .int .i64 n, .sl 0 .nil [], .sl 0 .nil [], .sl 0 .nil []]] h fun r h' => r = .tup [.str (Crc.app (state0 2 s n)), .int .i64 0] ∧ h' = h := by
  refine pcall ?_ rfl (by simp [A.pure, A.data]) h
  refine acall_of mixedT h_Encode (by simp [c_Encode]) ?_
  dsimp only [c_Encode]
  (refine AX.go0 True.intro ?_)
  (refine AX.gc0 True.intro ?_)
  refine (a_encode0 2 s n hs hv h0 h1 (.inr rfl) _).mono ?_
  rintro v h' ⟨rfl, rfl⟩
  (refine AX.go0 True.intro ?_)
  exact ⟨_, le_refl _, rfl⟩
theorem a_EncodeOld0 (s : List UInt8) (n : Int) (hs : s.length ≤ 100000) (hv : (s != [] && Str.valid s) = true) (h0 : 0 ≤ n) (h1 : n ≤ 9007199254740992) (h : Hp) :
    ACall Tryz.prog GT 13 [.agg [.str s, .int .i64 n, .sl 0 .nil [], .sl 0 .nil [], .sl 0 .nil []]] h fun r h' => r = .tup [.str (Crc.app (state0 1 s n)), .int .i64 0] ∧ h' = h := by
  refine pcall ?_ rfl (by simp [A.pure, A.data]) h
  refine acall_of mixedT h_EncodeOld (by simp [c_EncodeOld]) ?_
  dsimp only [c_EncodeOld]
  (refine AX.go0 True.intro ?_)
  (refine AX.gc0 True.intro ?_)
  refine (a_encode0 1 s n hs hv h0 h1 (.inl rfl) _).mono ?_
  rintro v h' ⟨rfl, rfl⟩
  (refine AX.go0 True.intro ?_)
  exact ⟨_, le_refl _, rfl⟩
def stE : A := .agg [.str [], .int .i64 0, .sl 0 .nil [], .sl 0 .nil [], .sl 0 .nil []]
theorem a_Decode_e (h : Hp) : ACall Tryz.prog GT 15 [.str []] h fun r h' => r = .tup [stE, .int .i64 2] ∧ h' = h := by
  refine pcall ?_ rfl (by simp [A.pure, A.data]) h
  refine acall_of mixedT h_Decode (by simp [c_Decode]) ?_
  dsimp only [c_Decode]
  have hg : ¬ ((0 : Nat) : Int) > 1048576 := by decide
  (refine AX.go0 hg ?_)
  (refine AX.gc0 True.intro ?_)
  refine (a_hasPrefix [] magic _).mono ?_
  rintro v h' ⟨rfl, rfl⟩
  (refine AX.go0 (show magic = [80, 86, 83, 84] from rfl) ?_)
  exact ⟨_, le_refl _, rfl⟩
theorem a_Decode_m (h : Hp) : ACall Tryz.prog GT 15 [.str [80, 86, 83, 84]] h fun r h' => r = .tup [stE, .int .i64 20] ∧ h' = h := by
  refine pcall ?_ rfl (by simp [A.pure, A.data]) h
  refine acall_of mixedT h_Decode (by simp [c_Decode]) ?_
  dsimp only [c_Decode]
  have hg : ¬ ((4 : Nat) : Int) > 1048576 := by decide
  have hb : (decide (magic.length ≤ [80, 86, 83, 84].length) && List.take magic.length [80, 86, 83, 84] == magic) = true := by decide
  have hv : Crc.ver [80, 86, 83, 84] = ([], 20) := by decide +kernel
  (refine AX.go0 hg ?_)
  (refine AX.gc0 True.intro ?_)
  refine (a_hasPrefix [80, 86, 83, 84] magic _).mono ?_
  rintro v h' ⟨hv', rfl⟩
  obtain rfl : v = .bool true := hv'.trans (congrArg A.bool (by decide))
  (refine AX.go0 True.intro ?_)
  (refine AX.gc0 True.intro ?_)
  refine (a_csVerify [80, 86, 83, 84] (by decide) _).mono ?_
  rintro v h' ⟨rfl, rfl⟩
  rw [hv]
  (refine AX.go0 True.intro ?_)
  exact ⟨_, le_refl _, rfl⟩
theorem awake32 : Awake := by
  intro h
  refine pcall ?_ rfl (by simp [A.pure, A.data]) h
  refine acall_of mixedT h_awake (by simp [c_awake]) ?_
  dsimp only [c_awake]
  have e2 : Crc.app (state0 2 [97] 1) = [80, 86, 83, 84, 4, 2, 97, 2, 0, 0, 0] ++ (Crc.app (state0 2 [97] 1)).drop 11 := by decide +kernel
  have l2 : (Crc.app (state0 2 [97] 1)).length = 15 := by decide +kernel
  obtain ⟨x2, hx2⟩ : ∃ x, Crc.app (state0 2 [97] 1) = x := ⟨_, rfl⟩
  have v2 : versionS (Crc.app (state0 2 [97] 1)) = (2, 0) := by decide +kernel
  have t2 : (Crc.app (state0 2 [97] 1)).take 11 = [80, 86, 83, 84, 4, 2, 97, 2, 0, 0, 0] := by decide +kernel
  have l1 : (Crc.app (state0 1 [97] 1)).length = 14 := by decide +kernel
  have g1 : ((Crc.app (state0 1 [97] 1)).getD 4 0).toNat = 2 := by decide +kernel
  have v3 : versionS [80, 86, 83, 84, 6] = (0, 21) := by decide +kernel
  have hva : ([97] != [] && Str.valid [97]) = true := by decide +kernel
  obtain ⟨x1, hx1⟩ : ∃ x, Crc.app (state0 1 [97] 1) = x := ⟨_, rfl⟩
  rw [hx2] at v2 t2 l2
  rw [hx1] at l1 g1
  (refine AX.go0 True.intro ?_)
  (refine AX.gc0 True.intro ?_)
  refine (a_Encode0 [97] 1 (by decide) hva (by decide) (by decide) _).mono ?_
  rintro v h' ⟨rfl, rfl⟩
  rw [hx2]
  (refine AX.go0 True.intro ?_)
  (refine AX.gc0 True.intro ?_)
  refine (a_EncodeOld0 [97] 1 (by decide) hva (by decide) (by decide) _).mono ?_
  rintro v h' ⟨rfl, rfl⟩
  rw [hx1]
  (refine AX.go0 True.intro ?_)
  (refine AX.gc0 True.intro ?_)
  refine (a_Decode_e _).mono ?_
  rintro v h' ⟨rfl, rfl⟩
  unfold stE
  (refine AX.go0 True.intro ?_)
  (refine AX.gc0 True.intro ?_)
  refine (a_Decode_m _).mono ?_
  rintro v h' ⟨rfl, rfl⟩
  unfold stE
  (refine AX.go0 True.intro ?_)
  (refine AX.gc0 True.intro ?_)
  refine (a_version x2 (by omega) _).mono ?_
  rintro v h' ⟨rfl, rfl⟩
  rw [v2]
  (refine AX.go0 True.intro ?_)
  (refine AX.gc0 True.intro ?_)
  refine (a_version [80, 86, 83, 84, 6] (by decide) _).mono ?_
  rintro v h' ⟨rfl, rfl⟩
  rw [v3]
  have m2 : ((x2.length : Int) != 15) = false := by rw [l2]; decide
  have m1 : ((x1.length : Int) != 14) = false := by rw [l1]; decide
  have b1 : (x2.take 11 == [80, 86, 83, 84, 4, 2, 97, 2, 0, 0, 0]) = true := by rw [t2]; decide
  have b2 : (((x1.getD 4 0).toNat : Int) == 2) = true := by rw [g1]; decide
  have c1 : (0 : Int) ≤ 11 := by decide
  have c2 : (11 : Int) ≤ (x2.length : Int) := by rw [l2]; decide
  have c3 : (0 : Int) ≤ 4 := by decide
  have c4 : (4 : Int) < (x1.length : Int) := by rw [l1]; decide
  have e11 : (11 : Int).toNat = 11 := rfl
  have e4 : (4 : Int).toNat = 4 := rfl
  (refine AX.go0 (And.intro m1 (And.intro m2 (And.intro b1 (And.intro b2 (And.intro c1 (And.intro c2 (And.intro c3 (And.intro c4 (And.intro e11 e4))))))))) ?_)
  (refine AX.gc0 True.intro ?_)
  refine ((a_AppendValue [] (by simp) (.mk 1 1 [] [] []) ⟨1, 0, by decide +kernel⟩ (by decide +kernel) (by unfold V.lens V.lensS; simp) _).args ?_).mono ?_
  · exact ⟨rfl, ⟨rfl, rfl, rfl, ⟨rfl, .inr rfl, .inl rfl⟩, ⟨rfl, .inr rfl, .inl rfl⟩, trivial⟩, trivial⟩
  rintro v h' ⟨rfl, rfl⟩
  have ev : [] ++ Val.enc (.mk 1 1 [] [] []) = [2, 2] := by decide +kernel
  (refine AX.go0 ev ?_)
  exact ⟨_, le_refl _, rfl⟩
theorem w_valueBack32 (v : V) (hw : v.Wf) (more : List UInt8) {n : Nat} (k : n ≤ maxLen) : ACall Tryz.prog GT 7 [v.A, .str more] ⟨[], []⟩ fun r _ => r = .bool true := w_valueBack awake32 v (V.Wf.lens v hw) more
end AX
end Go.Proofs.YtdikbljgmpbpjaaGreatDoor

namespace Go.Proofs.YtdikbljgmpbpjaaGreatDoor
open Go.ChangeShapes Go.WideShapes Go.ChangeAt Go.RowKit
namespace Card
theorem own : ownKnob Tryz.prog.godebug = none := by kernel_rfl
theorem first_eq : Go.Pinned.utf8First = Lib.firstData := by kernel_rfl
theorem accept_eq : (Rows.laid_unicode_utf8_acceptRanges : DataW Unit) = Lib.acceptData := by kernel_rfl
theorem iface_reads {P : Program} {w : World} {n : String} {g : Nat} {t : TypeId} {d : DataW Unit} {m : Array (String × TypeId)} (hg : P.globalNamed n = some g) (ht : (P.globals[g]?).map (·.type) = some t) (hu : P.underlying t = some (.interface m)) (h : Lib.VarReads P w n d) : IfaceAt g w := by
  obtain ⟨g', t', cs, fuel, p, h1, h2, h3, h4⟩ := h
  rw [hg] at h1; injection h1 with h1; subst h1
  rw [ht] at h2; injection h2 with h2; subst h2
  have hc := World.var?_cell hg h3 0
  obtain ⟨l⟩ := cs
  cases fuel with
  | zero => simp [DataW.trod] at h4
  | succ k =>
    match l, hc with
    | [], _ => simp [DataW.trod, hu] at h4
    | [.nilIface], hc => exact ⟨_, hc, .inl rfl⟩
    | [.iface u v], hc => exact ⟨_, hc, .inr ⟨u, v, rfl⟩⟩
    | v :: x :: l, _ => cases v <;> simp [DataW.trod, hu] at h4
    | [v], hc => cases v <;> first | exact ⟨_, hc, .inl rfl⟩ | exact ⟨_, hc, .inr ⟨_, _, rfl⟩⟩ | simp [DataW.trod, hu] at h4
theorem gt_of {W : World} (h : laidMetH Tryz.prog Rows.statefileValueBackRow.laid W) : GT W := by
  have hL : laidMet Tryz.prog Rows.statefileValueBackRow.laid W := by
    have e := Go.MakeChecks.laidMetH_plain Tryz.prog Rows.statefileValueBackRow.laid W (by kernel_rfl)
    rwa [e] at h
  have r1 : Lib.VarReads Tryz.prog W "unicode/utf8.first" Lib.firstData := by
    rw [← first_eq]; exact Lib.laidMet.reads hL (.tail _ (.tail _ (.tail _ (.tail _ (.tail _ (.tail _ (.head _)))))))
  have r2 : Lib.VarReads Tryz.prog W "unicode/utf8.acceptRanges" Lib.acceptData := by
    rw [← accept_eq]; exact Lib.laidMet.reads hL (.tail _ (.tail _ (.tail _ (.head _))))
  exact ⟨utf8Tabs_of_reads (ρ := Tryz.lays260_ren) Tryz.lays260 ⟨by kernel_rfl, by kernel_rfl, by kernel_rfl, by kernel_rfl, by kernel_rfl, by kernel_rfl, by kernel_rfl⟩ r1 r2,
    iface_reads (by kernel_rfl) (by kernel_rfl) Tryz.underlying157 (Lib.laidMet.reads hL (.tail _ (.tail _ (.tail _ (.tail _ (.tail _ (.head _))))))), iface_reads (by kernel_rfl) (by kernel_rfl) Tryz.underlying157 (Lib.laidMet.reads hL (.tail _ (.tail _ (.tail _ (.tail _ (.head _))))))⟩
def ints (k : IntKind) (l : List Int) : Array Value := (l.map fun z => Value.int k z).toArray
def u8s (l : List Int) : Array Value := ints .u8 l
def setTab (h : Array Obj) (g : Nat) (cs : Array Value) : Array Obj := h.modify g fun
  | .cells _ t frozen => .cells cs t frozen
  | o => o
/-- Where the sentinels' objects lie: behind what every world of the program has. -/
noncomputable def low : Nat := (World.holding Tryz.prog default ⟨#[], #[], []⟩).heap.size
/-- A world for the witness: the settled one, the listed variables as their initialisers lay them. -/
noncomputable def laidWorld (os : Os) (args : Array Value) : World :=
  { World.holding Tryz.prog os ⟨#[.cells #[.string { data := #[118, 97, 108, 117, 101, 32, 111, 117, 116, 32, 111, 102, 32, 114, 97, 110, 103, 101] }] 253, .cells #[.string { data := #[105, 110, 118, 97, 108, 105, 100, 32, 115, 121, 110, 116, 97, 120] }] 253], args, []⟩ with
    heap := (setTab (setTab (setTab (setTab (setTab (setTab (setTab (World.holding Tryz.prog os ⟨#[.cells #[.string { data := #[118, 97, 108, 117, 101, 32, 111, 117, 116, 32, 111, 102, 32, 114, 97, 110, 103, 101] }] 253, .cells #[.string { data := #[105, 110, 118, 97, 108, 105, 100, 32, 115, 121, 110, 116, 97, 120] }] 253], args, []⟩).heap 6 (ints .u8 [0, 1, 28, 2, 29, 14, 24, 3, 30, 22, 20, 15, 25, 17, 4, 8, 31, 27, 13, 23, 21, 19, 16, 7, 26, 12, 18, 6, 11, 5, 10, 9])) 7 (ints .u8 [0, 1, 56, 2, 57, 49, 28, 3, 61, 58, 42, 50, 38, 29, 17, 4, 62, 47, 59, 36, 45, 43, 51, 22, 53, 39, 33, 30, 24, 18, 12, 5, 63, 55, 48, 27, 60, 41, 37, 16, 46, 35, 44, 21, 52, 32, 23, 11, 54, 26, 40, 15, 34, 20, 31, 10, 25, 14, 19, 9, 13, 8, 7, 6])) 5 (ints .u64 [1, 10, 100, 1000, 10000, 100000, 1000000, 10000000, 100000000, 1000000000, 10000000000, 100000000000, 1000000000000, 10000000000000, 100000000000000, 1000000000000000, 10000000000000000, 100000000000000000, 1000000000000000000, 10000000000000000000])) 1 (ints .u8 [128, 191, 160, 191, 128, 159, 144, 191, 128, 143, 0, 0, 0, 0, 0, 0, 0, 0, 0, 0, 0, 0, 0, 0, 0, 0, 0, 0, 0, 0, 0, 0])) 4 (#[.iface 251 (.pointer (some ⟨low + 0, 0, none⟩))])) 3 (#[.iface 251 (.pointer (some ⟨low + 1, 0, none⟩))])) 0 (u8s Lib.firstTab)) }
end Card
end Go.Proofs.YtdikbljgmpbpjaaGreatDoor

namespace Go.Proofs.YtdikbljgmpbpjaaGreatDoor
open Go.RowKit
set_option linter.unusedSimpArgs false
set_option linter.unusedVariables false
set_option maxHeartbeats 4000000
namespace AX
def c_rastr : AX.AFn := ⟨11, .seq (.reg false [⟨some 4, .mv (.c (.str [])), none, []⟩]) (.seq (.reg false [⟨some 5, .mv (.t 0), none, []⟩, ⟨some 6, .mv (.t 1), none, []⟩, ⟨some 7, .len true (.t 6), none, []⟩, ⟨some 8, .call 58 [.t 5, .t 7], none, []⟩, ⟨some 9, .mv (.t 1), none, []⟩, ⟨some 10, .bin .add (.t 8) (.t 9), none, []⟩, ⟨some 4, .mv (.t 10), none, []⟩]) (.ret)), [.t 4]⟩
theorem h_rastr : AX.compFn Tryz.prog 59 = some c_rastr := by kernel_rfl
def c_rAppendValue : AX.AFn := ⟨65, .seq (.reg false [⟨some 3, .box 43 (.t 1), none, []⟩, ⟨some 4, .mv (.c (.str [])), none, []⟩]) (.seq (.reg false [⟨some 6, .mv (.t 0), none, []⟩, ⟨some 7, .faddr 0 (.t 3), none, []⟩, ⟨some 8, .load false 1 (.t 7), none, []⟩, ⟨some 9, .call 58 [.t 6, .t 8], none, []⟩, ⟨some 0, .mv (.t 9), none, []⟩]) (.seq (.seq (.reg false [⟨some 10, .faddr 0 (.t 3), none, []⟩, ⟨some 11, .load false 1 (.t 10), none, []⟩]) (.block 0 (.seq (.seq (.reg false [⟨some 13, .bin .eql (.t 11) (.c (.int .i64 1)), none, []⟩, ⟨some 12, .mv (.t 13), none, []⟩]) (.cond (.t 12) (.skip) (.reg false [⟨some 14, .bin .eql (.t 11) (.c (.int .i64 2)), none, []⟩, ⟨some 12, .mv (.t 14), none, []⟩]))) (.cond (.t 12) (.seq (.reg false [⟨some 15, .mv (.t 0), none, []⟩, ⟨some 16, .faddr 1 (.t 3), none, []⟩, ⟨some 17, .load false 1 (.t 16), none, []⟩, ⟨some 18, .call 58 [.t 15, .t 17], none, []⟩, ⟨some 4, .mv (.t 18), none, []⟩]) (.ret)) (.seq (.reg false [⟨some 20, .bin .eql (.t 11) (.c (.int .i64 3)), none, []⟩, ⟨some 19, .mv (.t 20), none, []⟩]) (.cond (.t 19) (.seq (.reg false [⟨some 21, .mv (.t 0), none, []⟩, ⟨some 22, .faddr 2 (.t 3), none, []⟩, ⟨some 23, .load false 1 (.t 22), none, []⟩, ⟨some 24, .call 59 [.t 21, .t 23], none, []⟩, ⟨some 4, .mv (.t 24), none, []⟩]) (.ret)) (.seq (.seq (.reg false [⟨some 26, .bin .eql (.t 11) (.c (.int .i64 4)), none, []⟩, ⟨some 25, .mv (.t 26), none, []⟩]) (.cond (.t 25) (.skip) (.reg false [⟨some 27, .bin .eql (.t 11) (.c (.int .i64 5)), none, []⟩, ⟨some 25, .mv (.t 27), none, []⟩]))) (.cond (.t 25) (.seq (.reg false [⟨some 28, .mv (.t 0), none, []⟩, ⟨some 29, .faddr 3 (.t 3), none, []⟩, ⟨some 30, .load false 1 (.t 29), none, []⟩, ⟨some 31, .len false (.t 30), none, []⟩, ⟨some 32, .call 58 [.t 28, .t 31], none, []⟩, ⟨some 0, .mv (.t 32), none, []⟩]) (.seq (.reg false [⟨some 5, .mv (.c (.int .i64 0)), none, []⟩]) (.block 1 (.loop (.seq (.seq (.reg false [⟨some 33, .mv (.t 5), none, []⟩, ⟨some 34, .faddr 3 (.t 3), none, []⟩, ⟨some 35, .load false 1 (.t 34), none, []⟩, ⟨some 36, .len false (.t 35), none, []⟩, ⟨some 37, .bin .lss (.t 33) (.t 36), none, []⟩]) (.cond (.t 37) (.skip) (.exit 1))) (.seq (.block 2 (.seq (.seq (.reg false [⟨some 40, .faddr 0 (.t 3), none, []⟩, ⟨some 41, .load false 1 (.t 40), none, []⟩, ⟨some 42, .bin .eql (.t 41) (.c (.int .i64 5)), none, []⟩, ⟨some 43, .mv (.t 42), none, []⟩, ⟨some 44, .mv (.t 5), some (43, true), []⟩, ⟨some 45, .faddr 4 (.t 3), some (43, true), []⟩, ⟨some 46, .load false 1 (.t 45), some (43, true), []⟩, ⟨some 47, .len false (.t 46), some (43, true), []⟩, ⟨some 48, .bin .lss (.t 44) (.t 47), some (43, true), []⟩, ⟨some 49, .pick (.t 43) (.t 48) (.c (.bool false)), none, []⟩]) (.cond (.t 49) (.reg false [⟨some 50, .mv (.t 0), none, []⟩, ⟨some 51, .faddr 4 (.t 3), none, []⟩, ⟨some 52, .load false 1 (.t 51), none, []⟩, ⟨some 53, .mv (.t 5), none, []⟩, ⟨some 54, .iaddr 1 (.t 52) (.t 53), none, []⟩, ⟨some 55, .load false 1 (.t 54), none, []⟩, ⟨some 56, .call 59 [.t 50, .t 55], none, []⟩, ⟨some 0, .mv (.t 56), none, []⟩]) (.skip))) (.reg false [⟨some 57, .mv (.t 0), none, []⟩, ⟨some 58, .faddr 3 (.t 3), none, []⟩, ⟨some 59, .load false 1 (.t 58), none, []⟩, ⟨some 60, .mv (.t 5), none, []⟩, ⟨some 61, .iaddr 5 (.t 59) (.t 60), none, []⟩, ⟨some 62, .load true 5 (.t 61), none, []⟩, ⟨some 63, .call 24 [.t 57, .t 62], none, []⟩, ⟨some 0, .mv (.t 63), none, []⟩]))) (.reg false [⟨some 38, .mv (.t 5), none, []⟩, ⟨some 39, .bin .add (.t 38) (.c (.int .i64 1)), none, []⟩, ⟨some 5, .mv (.t 39), none, []⟩]))))))) (.skip))))))))) (.seq (.reg false [⟨some 64, .mv (.t 0), none, []⟩, ⟨some 4, .mv (.t 64), none, []⟩]) (.ret)))), [.t 4]⟩
theorem h_rAppendValue : AX.compFn Tryz.prog 24 = some c_rAppendValue := by kernel_rfl

theorem a_rastr (dst s : List UInt8) (hlen : dst.length + s.length + 10 ≤ 1000000000) (h : Hp) : ACall Tryz.prog GT 59 [.str dst, .str s] h fun r h' => r = .str (dst ++ Wire.strE s) ∧ h' = h := by
  refine pcall ?_ rfl (by simp [A.pure, A.data]) h
  have hn := num_len s.length
  refine acall_of mixedT h_rastr (by simp [c_rastr]) ?_
  dsimp only [c_rastr]
  (refine AX.go0 True.intro ?_)
  (refine AX.gc0 True.intro ?_)
  refine (a_refAppendNumber dst s.length (by omega) (by omega) (by omega) _).mono ?_
  rintro v1 h1 ⟨rfl, rfl⟩
  have hsum : dst.length + (Wire.num s.length).length + s.length < 1099511627776 := by omega
  (refine AX.go0 hsum ?_)
  exact ⟨_, le_refl _, by rw [tupA_1, Wire.strE, List.append_assoc]⟩
theorem a_rAppendValue : ∀ (v : V) (dst : List UInt8) (h : Hp), (∃ lv b, (Val.chk v lv b).1 = 0) → dst.length + (Val.enc v).length + 10 ≤ 1000000000 → v.lens → ACall Tryz.prog GT 24 [.str dst, v.A] h fun r h' => r = .str (dst ++ Val.enc v) ∧ h' = h := by
  refine V.induct fun k n s is ks ih => ?_
  rintro l h ⟨lv, b, hchk⟩ hlen hlens
  refine pcall ?_ rfl (by simp [V.A, V.cells, A.pure, A.data]) h
  refine acall_of mixedT h_rAppendValue (by simp [c_rAppendValue]) ?_
  dsimp only [c_rAppendValue]
  obtain ⟨hil, hkl, _, hmem⟩ := V.lens_mk hlens
  obtain ⟨_, _, hz, hcs⟩ := Val.chk_parts hchk
  obtain ⟨hsh, hn2, hts, hks⟩ := Val.shaped_of hz
  have hs := Val.text_len hts
  have hkk := Val.keys_len ks none hks
  unfold Val.shapedB at hsh
  simp only [Bool.and_eq_true, Bool.or_eq_true, decide_eq_true_eq, beq_iff_eq] at hsh
  obtain ⟨⟨⟨⟨⟨hk0, hk6⟩, hnn⟩, _⟩, _⟩, hkn⟩ := hsh
  have hE : Val.enc (.mk k n s is ks) = Wire.num k ++ (if k = 1 ∨ k = 2 then Wire.num n else if k = 3 then Wire.strE s else if k = 4 ∨ k = 5 then Wire.num is.length ++ Val.encs (k == 5) is ks else []) := by rw [Val.enc]
  rw [hE] at hlen ⊢
  simp only [List.length_append] at hlen
  (refine AX.goV True.intro ?_)
  (refine AX.gcV True.intro ?_)
  refine (a_refAppendNumber l k (by omega) (by omega) (by omega) _).mono ?_
  rintro v0 h1 ⟨rfl, rfl⟩
  have hlk := num_len k
  by_cases hk12 : k = 1 ∨ k = 2
  · rw [if_pos hk12] at hlen ⊢
    have hn : -9223372036854775808 ≤ n ∧ n ≤ 9223372036854775807 := by
      rcases hk12 with rfl | rfl
      · rcases hnn with (h | h) | h
        · exact absurd h (by decide)
        · omega
        · omega
      · have := hn2 rfl; omega
    rcases hk12 with rfl | rfl
    all_goals
      (refine AX.goV True.intro ?_)
      (refine AX.gcV True.intro ?_)
      refine (a_refAppendNumber _ n (by rw [List.length_append]; omega) (by omega) (by omega) _).mono ?_
      rintro v2 h2 ⟨rfl, rfl⟩
      (refine AX.goV True.intro ?_)
      exact ⟨_, le_refl _, by rw [tupA_1, List.append_assoc]⟩
  rw [if_neg hk12] at hlen ⊢
  have e1 : (k == 1) = false := by simp; omega
  have e2 : (k == 2) = false := by simp; omega
  by_cases hk3 : k = 3
  · rw [if_pos hk3] at hlen ⊢
    subst hk3
    (refine AX.goV True.intro ?_)
    (refine AX.gcV True.intro ?_)
    unfold Wire.strE at hlen
    rw [List.length_append] at hlen
    refine (a_rastr _ s (by rw [List.length_append]; omega) _).mono ?_
    rintro v2 h2 ⟨rfl, rfl⟩
    (refine AX.goV True.intro ?_)
    exact ⟨_, le_refl _, by rw [tupA_1, List.append_assoc]⟩
  rw [if_neg hk3] at hlen ⊢
  have e3 : (k == 3) = false := by simp; omega
  by_cases hk45 : k = 4 ∨ k = 5
  · rw [if_pos hk45] at hlen ⊢
    rw [List.length_append] at hlen
    have hkl5 : (k == 5) = true → ks.length = is.length := fun e => by
      rw [if_pos (by simpa using e)] at hkn; simpa using hkn
    have hln := num_len is.length
    have step : ∀ (j : Nat) (hj : j < is.length), (Val.encs (k == 5) (is.take j) ks).length + (Val.keyE (k == 5) (ks.drop j)).length + (Val.enc is[j]).length ≤ (Val.encs (k == 5) is ks).length := encs_step _ _ _
    have e45 : (k == 4) = true ∨ (k == 4) = false ∧ (k == 5) = true := by
      rcases hk45 with rfl | rfl
      · exact .inl rfl
      · exact .inr ⟨rfl, rfl⟩
    rcases e45 with e4 | ⟨e4, e5⟩
    all_goals
      (refine AX.goV (And.intro e1 (And.intro e2 (And.intro e3 (And.intro e4 @V.cellss_length)))) ?_)
      try (refine AX.goV (And.intro e1 (And.intro e2 (And.intro e3 (And.intro e4 (And.intro e5 @V.cellss_length))))) ?_)
      (refine AX.gcV True.intro ?_)
      refine (a_refAppendNumber _ is.length (by rw [List.length_append]; omega) (by omega) (by omega) _).mono ?_
      rintro v2 h2 ⟨rfl, rfl⟩
      (refine AX.goV @V.cellss_length ?_)
      refine awp_loop (fun m ts hh => hh = ⟨[.cells 43 (V.mk k n s is ks).cells], []⟩ ∧ ∃ (j : Nat), m = is.length - j ∧ j ≤ is.length ∧ ts 0 = .str (l ++ Wire.num k ++ Wire.num is.length ++ Val.encs (k == 5) (is.take j) ks) ∧ ts 3 = .ptr 0 0 ∧ ts 5 = .int .i64 j) is.length ?_ ?_
      · refine ⟨rfl, 0, rfl, Nat.zero_le _, ?_⟩
        simp only [put_app, put_none, init_app, evX_t, evX_c, resA_nil, resA_t, resA_c, tupA_0, tupA_1, tupA_2, astep, bop, uop, loadA, storeA, appA, ssliceA, eqA, eqCells, fillA, rowsA, setCells, A.cells, A.one, A.data, optP_some, List.all_cons, List.all_nil, Bool.and_true, Bool.true_and, Option.map_some, Option.map_none, Option.bind_some, Option.bind_none, Option.getD_some, Option.getD_none, List.map_cons, List.map_nil, List.getD_cons_zero, List.getD_cons_succ, List.getElem?_cons_zero, List.getElem?_cons_succ, List.length_cons, List.length_nil, List.nil_append, List.cons_append, List.append_nil, List.set_cons_zero, List.set_cons_succ, List.drop_zero, List.drop_succ_cons, List.take_succ_cons, List.take_zero, List.take_nil, List.length_append, List.length_set, Nat.reduceAdd, Nat.reduceSub, Nat.reduceMul, Nat.reduceLeDiff, Nat.reduceEqDiff, Nat.reduceBEq, Int.toNat_natCast, Int.natCast_nonneg, if_true, if_false, reduceIte, ite_true, ite_false, true_and, and_true, ne_eq, not_true_eq_false, not_false_eq_true, Bool.false_eq_true, reduceCtorEq, and_self, Nat.zero_add, Nat.add_zero, Nat.le_refl, Bool.not_true, Bool.not_false, decide_true, decide_false, Val.encs]
        trivial
      · rintro m ts hh ⟨rfl, j, rfl, hj, t0, t3, t5⟩
        by_cases hlt : j < is.length
        · have hlt2 : (j : Int) < (is.length : Int) := by omega
          have hla : (j : Int) < ((V.cellss is).length : Int) := by rw [V.cellss_length]; omega
          have ei : IntKind.i64.wrap ((j : Int) + 1) = (j : Int) + 1 := wrap64 (by omega) (by omega)
          have ee := V.cellss_get is j hlt
          have hst := step j hlt
          have htk := Val.encs_take (k == 5) is ks j hlt
          have hcall := fun (l' : List UInt8) (h : Hp) (hb : l'.length + (Val.enc is[j]).length + 10 ≤ 1000000000) => ih is[j] (List.getElem_mem hlt) l' h ((Val.chks_get is _ _ hcs j hlt).elim fun b' hb' => ⟨_, b', hb'⟩) hb (hmem _ (List.getElem_mem hlt))
          obtain ⟨⟨k', n', s', is', ks'⟩, hv⟩ : ∃ x, is[j] = x := ⟨_, rfl⟩
          rw [hv] at ee hcall htk hst
          rcases bool_or (k == 5) with e5' | e5'
          · have hkj : j < ks.length := by rw [hkl5 e5']; exact hlt
            have hlk2 : (j : Int) < ((strsA ks).length : Int) := by rw [strsA_length]; omega
            have ek := strsA_get ks j hkj
            have hke : Val.keyE (k == 5) (ks.drop j) = Wire.strE ks[j] := by rw [e5', List.drop_eq_getElem_cons hkj]; rfl
            rw [hke] at htk hst
            simp only [e5'] at htk hst t0 hlen
            have hsl : (Wire.strE ks[j]).length = (Wire.num ks[j].length).length + ks[j].length := by unfold Wire.strE; rw [List.length_append]
            (refine AX.goC (And.intro t0 (And.intro t3 (And.intro t5 (And.intro hla (And.intro hlt2 (And.intro ee (And.intro ei (And.intro e5' (And.intro hlk2 ek))))))))) ?_)
            (refine AX.gcC (And.intro t0 (And.intro t3 t5)) ?_)
            refine (a_rastr _ ks[j] (by simp only [List.length_append]; omega) _).mono ?_
            rintro v3 h3 ⟨rfl, rfl⟩
            (refine AX.goC (And.intro t0 (And.intro t3 (And.intro t5 (And.intro hla ee)))) ?_)
            (refine AX.gcC (And.intro t0 (And.intro t3 t5)) ?_)
            refine (hcall _ _ (by simp only [List.length_append]; omega)).mono ?_
            rintro v4 h4 ⟨rfl, rfl⟩
            (refine AX.goC (And.intro t0 (And.intro t3 (And.intro t5 ei))) ?_)
            refine ⟨is.length - (j + 1), by omega, rfl, j + 1, rfl, by omega, ?_⟩
            simp only [put_app, put_none, init_app, evX_t, evX_c, resA_nil, resA_t, resA_c, tupA_0, tupA_1, tupA_2, astep, bop, uop, loadA, storeA, appA, ssliceA, eqA, eqCells, fillA, rowsA, setCells, A.cells, A.one, A.data, optP_some, List.all_cons, List.all_nil, Bool.and_true, Bool.true_and, Option.map_some, Option.map_none, Option.bind_some, Option.bind_none, Option.getD_some, Option.getD_none, List.map_cons, List.map_nil, List.getD_cons_zero, List.getD_cons_succ, List.getElem?_cons_zero, List.getElem?_cons_succ, List.length_cons, List.length_nil, List.nil_append, List.cons_append, List.append_nil, List.set_cons_zero, List.set_cons_succ, List.drop_zero, List.drop_succ_cons, List.take_succ_cons, List.take_zero, List.take_nil, List.length_append, List.length_set, Nat.reduceAdd, Nat.reduceSub, Nat.reduceMul, Nat.reduceLeDiff, Nat.reduceEqDiff, Nat.reduceBEq, Int.toNat_natCast, Int.natCast_nonneg, if_true, if_false, reduceIte, ite_true, ite_false, true_and, and_true, ne_eq, not_true_eq_false, not_false_eq_true, Bool.false_eq_true, reduceCtorEq, and_self, Nat.zero_add, Nat.add_zero, Nat.le_refl, Bool.not_true, Bool.not_false, decide_true, decide_false, htk, e5', List.append_assoc, t3, Int.natCast_add, Int.natCast_one]
          · have hke : Val.keyE (k == 5) (ks.drop j) = [] := by rw [e5']; rfl
            rw [hke] at htk hst
            simp only [e5'] at htk hst t0 hlen
            (refine AX.goC (And.intro t0 (And.intro t3 (And.intro t5 (And.intro hla (And.intro hlt2 (And.intro ee (And.intro ei e5'))))))) ?_)
            (refine AX.gcC (And.intro t0 (And.intro t3 t5)) ?_)
            refine (hcall _ _ (by simp only [List.length_append]; omega)).mono ?_
            rintro v4 h4 ⟨rfl, rfl⟩
            (refine AX.goC (And.intro t0 (And.intro t3 (And.intro t5 ei))) ?_)
            refine ⟨is.length - (j + 1), by omega, rfl, j + 1, rfl, by omega, ?_⟩
            simp only [put_app, put_none, init_app, evX_t, evX_c, resA_nil, resA_t, resA_c, tupA_0, tupA_1, tupA_2, astep, bop, uop, loadA, storeA, appA, ssliceA, eqA, eqCells, fillA, rowsA, setCells, A.cells, A.one, A.data, optP_some, List.all_cons, List.all_nil, Bool.and_true, Bool.true_and, Option.map_some, Option.map_none, Option.bind_some, Option.bind_none, Option.getD_some, Option.getD_none, List.map_cons, List.map_nil, List.getD_cons_zero, List.getD_cons_succ, List.getElem?_cons_zero, List.getElem?_cons_succ, List.length_cons, List.length_nil, List.nil_append, List.cons_append, List.append_nil, List.set_cons_zero, List.set_cons_succ, List.drop_zero, List.drop_succ_cons, List.take_succ_cons, List.take_zero, List.take_nil, List.length_append, List.length_set, Nat.reduceAdd, Nat.reduceSub, Nat.reduceMul, Nat.reduceLeDiff, Nat.reduceEqDiff, Nat.reduceBEq, Int.toNat_natCast, Int.natCast_nonneg, if_true, if_false, reduceIte, ite_true, ite_false, true_and, and_true, ne_eq, not_true_eq_false, not_false_eq_true, Bool.false_eq_true, reduceCtorEq, and_self, Nat.zero_add, Nat.add_zero, Nat.le_refl, Bool.not_true, Bool.not_false, decide_true, decide_false, htk, e5', List.append_assoc, t3, Int.natCast_add, Int.natCast_one, List.nil_append]
        · have hlt2 : ¬ (j : Int) < ((V.cellss is).length : Int) := by rw [V.cellss_length]; omega
          rw [List.take_of_length_le (by omega)] at t0
          (refine AX.goC (And.intro t0 (And.intro t3 (And.intro t5 hlt2))) ?_)
          exact ⟨_, le_refl _, by rw [tupA_1, List.append_assoc, List.append_assoc]⟩
  · rw [if_neg hk45] at hlen ⊢
    rw [List.append_nil]
    have e4 : (k == 4) = false := by simp; omega
    have e5 : (k == 5) = false := by simp; omega
    (refine AX.goV (And.intro e1 (And.intro e2 (And.intro e3 (And.intro e4 e5)))) ?_)
    exact ⟨_, le_refl _, rfl⟩
end AX
end Go.Proofs.YtdikbljgmpbpjaaGreatDoor

namespace Go.Proofs.YtdikbljgmpbpjaaGreatDoor
open Go.RowKit
set_option linter.unusedSimpArgs false
set_option linter.unusedVariables false
set_option maxHeartbeats 4000000
namespace AX
def c_r9Equal : AX.AFn := ⟨81, .seq (.reg false [⟨some 2, .box 43 (.t 0), none, []⟩, ⟨some 3, .box 43 (.t 1), none, []⟩, ⟨some 4, .mv (.c (.bool false)), none, []⟩]) (.seq (.seq (.reg false [⟨some 7, .faddr 0 (.t 2), none, []⟩, ⟨some 8, .load false 1 (.t 7), none, []⟩, ⟨some 9, .faddr 0 (.t 3), none, []⟩, ⟨some 10, .load false 1 (.t 9), none, []⟩, ⟨some 11, .bin .neq (.t 8) (.t 10), none, []⟩, ⟨some 12, .mv (.t 11), none, []⟩, ⟨some 13, .faddr 1 (.t 2), some (12, false), []⟩, ⟨some 14, .load false 1 (.t 13), some (12, false), []⟩, ⟨some 15, .faddr 1 (.t 3), some (12, false), []⟩, ⟨some 16, .load false 1 (.t 15), some (12, false), []⟩, ⟨some 17, .bin .neq (.t 14) (.t 16), some (12, false), []⟩, ⟨some 18, .pick (.t 12) (.c (.bool true)) (.t 17), none, []⟩, ⟨some 19, .mv (.t 18), none, []⟩, ⟨some 20, .faddr 2 (.t 2), some (19, false), []⟩, ⟨some 21, .load false 1 (.t 20), some (19, false), []⟩, ⟨some 22, .faddr 2 (.t 3), some (19, false), []⟩, ⟨some 23, .load false 1 (.t 22), some (19, false), []⟩, ⟨some 24, .bin .neq (.t 21) (.t 23), some (19, false), []⟩, ⟨some 25, .pick (.t 19) (.c (.bool true)) (.t 24), none, []⟩, ⟨some 26, .mv (.t 25), none, []⟩, ⟨some 27, .faddr 3 (.t 2), some (26, false), []⟩, ⟨some 28, .load false 1 (.t 27), some (26, false), []⟩, ⟨some 29, .len false (.t 28), some (26, false), []⟩, ⟨some 30, .faddr 3 (.t 3), some (26, false), []⟩, ⟨some 31, .load false 1 (.t 30), some (26, false), []⟩, ⟨some 32, .len false (.t 31), some (26, false), []⟩, ⟨some 33, .bin .neq (.t 29) (.t 32), some (26, false), []⟩, ⟨some 34, .pick (.t 26) (.c (.bool true)) (.t 33), none, []⟩, ⟨some 35, .mv (.t 34), none, []⟩, ⟨some 36, .faddr 4 (.t 2), some (35, false), []⟩, ⟨some 37, .load false 1 (.t 36), some (35, false), []⟩, ⟨some 38, .len false (.t 37), some (35, false), []⟩, ⟨some 39, .faddr 4 (.t 3), some (35, false), []⟩, ⟨some 40, .load false 1 (.t 39), some (35, false), []⟩, ⟨some 41, .len false (.t 40), some (35, false), []⟩, ⟨some 42, .bin .neq (.t 38) (.t 41), some (35, false), []⟩, ⟨some 43, .pick (.t 35) (.c (.bool true)) (.t 42), none, []⟩]) (.cond (.t 43) (.seq (.reg false [⟨some 4, .mv (.c (.bool false)), none, []⟩]) (.ret)) (.skip))) (.seq (.seq (.reg false [⟨some 5, .mv (.c (.int .i64 0)), none, []⟩]) (.block 0 (.loop (.seq (.seq (.reg false [⟨some 44, .mv (.t 5), none, []⟩, ⟨some 45, .faddr 4 (.t 2), none, []⟩, ⟨some 46, .load false 1 (.t 45), none, []⟩, ⟨some 47, .len false (.t 46), none, []⟩, ⟨some 48, .bin .lss (.t 44) (.t 47), none, []⟩]) (.cond (.t 48) (.skip) (.exit 0))) (.seq (.block 1 (.seq (.reg true [⟨some 51, .faddr 4 (.t 2), none, []⟩, ⟨some 52, .load false 1 (.t 51), none, [0]⟩, ⟨some 53, .mv (.t 5), none, []⟩, ⟨some 54, .iaddr 1 (.t 52) (.t 53), none, [1, 2]⟩, ⟨some 55, .load false 1 (.t 54), none, [3]⟩, ⟨some 56, .faddr 4 (.t 3), none, []⟩, ⟨some 57, .load false 1 (.t 56), none, [5]⟩, ⟨some 58, .mv (.t 5), none, []⟩, ⟨some 59, .iaddr 1 (.t 57) (.t 58), none, [6, 7]⟩, ⟨some 60, .load false 1 (.t 59), none, [8]⟩, ⟨some 61, .bin .neq (.t 55) (.t 60), none, [4, 9]⟩]) (.cond (.t 61) (.seq (.reg false [⟨some 4, .mv (.c (.bool false)), none, []⟩]) (.ret)) (.skip)))) (.reg false [⟨some 49, .mv (.t 5), none, []⟩, ⟨some 50, .bin .add (.t 49) (.c (.int .i64 1)), none, []⟩, ⟨some 5, .mv (.t 50), none, []⟩])))))) (.seq (.seq (.reg false [⟨some 6, .mv (.c (.int .i64 0)), none, []⟩]) (.block 2 (.loop (.seq (.seq (.reg false [⟨some 62, .mv (.t 6), none, []⟩, ⟨some 63, .faddr 3 (.t 2), none, []⟩, ⟨some 64, .load false 1 (.t 63), none, []⟩, ⟨some 65, .len false (.t 64), none, []⟩, ⟨some 66, .bin .lss (.t 62) (.t 65), none, []⟩]) (.cond (.t 66) (.skip) (.exit 2))) (.seq (.block 3 (.seq (.reg true [⟨some 69, .faddr 3 (.t 2), none, []⟩, ⟨some 70, .load false 1 (.t 69), none, [0]⟩, ⟨some 71, .mv (.t 6), none, []⟩, ⟨some 72, .iaddr 5 (.t 70) (.t 71), none, [1, 2]⟩, ⟨some 73, .load true 5 (.t 72), none, [3]⟩, ⟨some 74, .faddr 3 (.t 3), none, []⟩, ⟨some 75, .load false 1 (.t 74), none, [5]⟩, ⟨some 76, .mv (.t 6), none, []⟩, ⟨some 77, .iaddr 5 (.t 75) (.t 76), none, [6, 7]⟩, ⟨some 78, .load true 5 (.t 77), none, [8]⟩, ⟨some 79, .call 29 [.t 73, .t 78], none, [4, 9]⟩, ⟨some 80, .un .not (.t 79), none, [10]⟩]) (.cond (.t 80) (.seq (.reg false [⟨some 4, .mv (.c (.bool false)), none, []⟩]) (.ret)) (.skip)))) (.reg false [⟨some 67, .mv (.t 6), none, []⟩, ⟨some 68, .bin .add (.t 67) (.c (.int .i64 1)), none, []⟩, ⟨some 6, .mv (.t 68), none, []⟩])))))) (.seq (.reg false [⟨some 4, .mv (.c (.bool true)), none, []⟩]) (.ret))))), [.t 4]⟩
theorem h_r9Equal : AX.compFn Tryz.prog 29 = some c_r9Equal := by kernel_rfl

theorem t_rEqual : ∀ (v v' : V), v.lens → v'.lens → ∀ h, ACall Tryz.prog GT 29 [v.A, v'.A] h fun r h' => r = .bool (Val.eqB v v') ∧ h' = h := by
  refine V.induct fun k n s is ks ih => ?_
  rintro ⟨k', n', s', is', ks'⟩ hlen hlen' h
  refine pcall ?_ rfl (by simp [V.A, V.cells, A.pure, A.data]) h
  refine acall_of mixedT h_r9Equal (by simp [c_r9Equal]) ?_
  dsimp only [c_r9Equal]
  obtain ⟨hil, hkl, _, hmem⟩ := V.lens_mk hlen
  obtain ⟨hil', hkl', _, hmem'⟩ := V.lens_mk hlen'
  have hE : Val.eqB (.mk k n s is ks) (.mk k' n' s' is' ks') = (k == k' && n == n' && s == s' && ks == ks' && Val.eqBs is is') := by rw [Val.eqB]
  have hno : ∀ b, b = false → Val.eqB (.mk k n s is ks) (.mk k' n' s' is' ks') = b → True := fun _ _ _ => trivial
  by_cases h1 : k = k'
  rotate_left
  · have e1 : (k != k') = true := by simp [h1]
    (refine AX.goV e1 ?_)
    exact ⟨_, le_refl _, by rw [tupA_1, hE, beq_eq_false_iff_ne.2 h1]; rfl⟩
  have e1 : (k != k') = false := by simp [h1]
  by_cases h2 : n = n'
  rotate_left
  · have e2 : (n != n') = true := by simp [h2]
    (refine AX.goV (And.intro e1 e2) ?_)
    exact ⟨_, le_refl _, by rw [tupA_1, hE, beq_eq_false_iff_ne.2 h2]; simp⟩
  have e2 : (n != n') = false := by simp [h2]
  by_cases h3 : s = s'
  rotate_left
  · have e3 : (s != s') = true := by simp [h3]
    (refine AX.goV (And.intro e1 (And.intro e2 e3)) ?_)
    exact ⟨_, le_refl _, by rw [tupA_1, hE, beq_eq_false_iff_ne.2 h3]; simp⟩
  have e3 : (s != s') = false := by simp [h3]
  by_cases h4 : is.length = is'.length
  rotate_left
  · have e4 : ((is.length : Int) != (is'.length : Int)) = true := by simp; omega
    have hb : Val.eqBs is is' = false := by rw [Bool.eq_false_iff]; exact fun e => h4 (eqBs_len e)
    (refine AX.goV (And.intro e1 (And.intro e2 (And.intro e3 (And.intro @V.cellss_length e4)))) ?_)
    exact ⟨_, le_refl _, by rw [tupA_1, hE, hb]; simp⟩
  have e4 : ((is.length : Int) != (is'.length : Int)) = false := by simp [h4]
  by_cases h5 : ks.length = ks'.length
  rotate_left
  · have e5 : ((ks.length : Int) != (ks'.length : Int)) = true := by simp; omega
    have hb : (ks == ks') = false := by rw [beq_eq_false_iff_ne]; rintro rfl; exact h5 rfl
    (refine AX.goV (And.intro e1 (And.intro e2 (And.intro e3 (And.intro @V.cellss_length (And.intro e4 (And.intro @strsA_length e5)))))) ?_)
    exact ⟨_, le_refl _, by rw [tupA_1, hE, hb]; simp⟩
  have e5 : ((ks.length : Int) != (ks'.length : Int)) = false := by simp [h5]
  have hE2 : Val.eqB (.mk k n s is ks) (.mk k' n' s' is' ks') = (ks == ks' && Val.eqBs is is') := by rw [hE]; simp [h1, h2, h3]
  (refine AX.goV (And.intro e1 (And.intro e2 (And.intro e3 (And.intro @V.cellss_length (And.intro e4 (And.intro @strsA_length e5)))))) ?_)
  refine awp_loop (fun m ts hh => hh = ⟨[.cells 43 [.int .i64 k, .int .i64 n, .str s, .sl 5 .no (V.cellss is), .sl 1 .no (strsA ks)], .cells 43 [.int .i64 k', .int .i64 n', .str s', .sl 5 .no (V.cellss is'), .sl 1 .no (strsA ks')]], []⟩ ∧ ∃ (i : Nat), m = ks.length - i ∧ i ≤ ks.length ∧ (ks.drop i == ks'.drop i) = (ks == ks') ∧ ts 2 = .ptr 0 0 ∧ ts 3 = .ptr 1 0 ∧ ts 5 = .int .i64 i) ks.length ?_ ?_
  · refine ⟨rfl, 0, rfl, Nat.zero_le _, rfl, ?_⟩
    (exact AX.inv0 @strsA_length)
  · rintro m ts hh ⟨rfl, i, rfl, hi, heq, t2, t3, t5⟩
    by_cases hlt : i < ks.length
    · have hla : (i : Int) < ((strsA ks).length : Int) := by rw [strsA_length]; omega
      have hlb : (i : Int) < ((strsA ks').length : Int) := by rw [strsA_length]; omega
      have ei : IntKind.i64.wrap ((i : Int) + 1) = (i : Int) + 1 := wrap64 (by omega) (by omega)
      have ea := strsA_get ks i hlt
      have eb := strsA_get ks' i (by omega)
      rw [List.drop_eq_getElem_cons hlt, List.drop_eq_getElem_cons (by omega : i < ks'.length)] at heq
      (refine AX.go0 (And.intro t2 (And.intro t3 (And.intro t5 hla))) ?_)
      refine awp_quiet (by decide) ?_
      by_cases hc : ks[i] = ks'[i]
      · have hc' : (ks[i] != ks'[i]) = false := by simp [hc]
        (refine AX.go0 (And.intro t2 (And.intro t3 (And.intro t5 (And.intro hla (And.intro hlb (And.intro ea (And.intro eb (And.intro hc' ei)))))))) ?_)
        refine ⟨ks.length - (i + 1), by omega, rfl, i + 1, rfl, by omega, ?_, ?_⟩
        · rw [← heq, List.cons_beq_cons, hc, beq_self_eq_true, Bool.true_and]
        · (exact AX.inv0 (And.intro t2 (And.intro t3 (And.intro t5 ei))))
      · have hc' : (ks[i] != ks'[i]) = true := by simp [hc]
        (refine AX.go0 (And.intro t2 (And.intro t3 (And.intro t5 (And.intro hla (And.intro hlb (And.intro ea (And.intro eb (And.intro hc' ei)))))))) ?_)
        exact ⟨_, le_refl _, by rw [tupA_1, hE2, ← heq, List.cons_beq_cons, beq_eq_false_iff_ne.2 hc]; simp⟩
    · have hla : ¬ (i : Int) < ((strsA ks).length : Int) := by rw [strsA_length]; omega
      rw [List.drop_of_length_le (by omega), List.drop_of_length_le (by omega)] at heq
      have hE3 : Val.eqB (.mk k n s is ks) (.mk k' n' s' is' ks') = Val.eqBs is is' := by rw [hE2, ← heq]; simp
      (refine AX.go0 (And.intro t2 (And.intro t3 (And.intro t5 hla))) ?_)
      refine awp_loop (fun m ts hh => hh = ⟨[.cells 43 [.int .i64 k, .int .i64 n, .str s, .sl 5 .no (V.cellss is), .sl 1 .no (strsA ks)], .cells 43 [.int .i64 k', .int .i64 n', .str s', .sl 5 .no (V.cellss is'), .sl 1 .no (strsA ks')]], []⟩ ∧ ∃ (i : Nat), m = is.length - i ∧ i ≤ is.length ∧ Val.eqBs (is.drop i) (is'.drop i) = Val.eqBs is is' ∧ ts 2 = .ptr 0 0 ∧ ts 3 = .ptr 1 0 ∧ ts 6 = .int .i64 i) is.length ?_ ?_
      · refine ⟨rfl, 0, rfl, Nat.zero_le _, rfl, ?_⟩
        (exact AX.inv0 (And.intro @strsA_length (And.intro t2 t3)))
      · clear heq
        rintro m ts hh ⟨rfl, i, rfl, hi, heq, t2, t3, t6⟩
        by_cases hlt : i < is.length
        · have hla : (i : Int) < ((V.cellss is).length : Int) := by rw [V.cellss_length]; omega
          have hlb : (i : Int) < ((V.cellss is').length : Int) := by rw [V.cellss_length]; omega
          have ei : IntKind.i64.wrap ((i : Int) + 1) = (i : Int) + 1 := wrap64 (by omega) (by omega)
          have ea := V.cellss_get is i hlt
          have eb := V.cellss_get is' i (by omega)
          have hcall := fun (h : Hp) => ih is[i] (List.getElem_mem hlt) (is'[i]'(by omega)) (hmem _ (List.getElem_mem hlt)) (hmem' _ (List.getElem_mem (by omega))) h
          rw [List.drop_eq_getElem_cons hlt, List.drop_eq_getElem_cons (by omega : i < is'.length), Val.eqBs] at heq
          obtain ⟨⟨k1, n1, s1, is1, ks1⟩, hv⟩ : ∃ x, is[i] = x := ⟨_, rfl⟩
          obtain ⟨⟨k2, n2, s2, is2, ks2⟩, hv2⟩ : ∃ x, is'[i]'(by omega) = x := ⟨_, rfl⟩
          rw [hv] at ea hcall heq
          rw [hv2] at eb hcall heq
          simp only [V.A, V.cells] at hcall
          (refine AX.goC (And.intro t2 (And.intro t3 (And.intro t6 hla))) ?_)
          refine awp_quiet (by decide) ?_
          (refine AX.goC (And.intro t2 (And.intro t3 (And.intro t6 (And.intro hla (And.intro hlb (And.intro ea eb)))))) ?_)
          refine gq_call (by simp only [put_app, put_none, init_app, evX_t, evX_c, resA_nil, resA_t, resA_c, tupA_0, tupA_1, tupA_2, astep, bop, uop, loadA, storeA, appA, ssliceA, eqA, eqCells, fillA, rowsA, setCells, A.cells, A.one, A.data, optP_some, List.all_cons, List.all_nil, Bool.and_true, Bool.true_and, Option.map_some, Option.map_none, Option.bind_some, Option.bind_none, Option.getD_some, Option.getD_none, List.map_cons, List.map_nil, List.getD_cons_zero, List.getD_cons_succ, List.getElem?_cons_zero, List.getElem?_cons_succ, List.length_cons, List.length_nil, List.nil_append, List.cons_append, List.append_nil, List.set_cons_zero, List.set_cons_succ, List.drop_zero, List.drop_succ_cons, List.take_succ_cons, List.take_zero, List.take_nil, List.length_append, List.length_set, Nat.reduceAdd, Nat.reduceSub, Nat.reduceMul, Nat.reduceLeDiff, Nat.reduceEqDiff, Nat.reduceBEq, Int.toNat_natCast, Int.natCast_nonneg, if_true, if_false, reduceIte, ite_true, ite_false, true_and, and_true, ne_eq, not_true_eq_false, not_false_eq_true, Bool.false_eq_true, reduceCtorEq, and_self, Nat.zero_add, Nat.add_zero, Nat.le_refl, Bool.not_true, Bool.not_false, decide_true, decide_false, t2, t3, t6] <;> with_reducible rfl) (hcall _) ?_
          rcases bool_or (Val.eqB (.mk k1 n1 s1 is1 ks1) (.mk k2 n2 s2 is2 ks2)) with hz | hz
          · rw [hz] at heq ⊢
            (refine AX.go0 (And.intro t2 (And.intro t3 (And.intro t6 ei))) ?_)
            refine ⟨is.length - (i + 1), by omega, rfl, i + 1, rfl, by omega, by simpa using heq, ?_⟩
            (exact AX.inv0 (And.intro t2 (And.intro t3 (And.intro t6 ei))))
          · rw [hz] at heq ⊢
            (refine AX.go0 (And.intro t2 (And.intro t3 (And.intro t6 ei))) ?_)
            exact ⟨_, le_refl _, by rw [tupA_1, hE3, ← heq]; rfl⟩
        · have hla : ¬ (i : Int) < ((V.cellss is).length : Int) := by rw [V.cellss_length]; omega
          rw [List.drop_of_length_le (by omega), List.drop_of_length_le (by omega)] at heq
          (refine AX.go0 (And.intro t2 (And.intro t3 (And.intro t6 hla))) ?_)
          exact ⟨_, le_refl _, by rw [tupA_1, hE3, ← heq]; rfl⟩
end AX
end Go.Proofs.YtdikbljgmpbpjaaGreatDoor

namespace Go.Proofs.YtdikbljgmpbpjaaGreatDoor
open Go.RowKit
set_option linter.unusedSimpArgs false
set_option linter.unusedVariables false
set_option maxHeartbeats 4000000
namespace AX
def c_lvalues : AX.AFn := ⟨85, .seq (.reg false [⟨some 2, .box 43 (.t 0), none, []⟩, ⟨some 4, .mv (.c (.bool false)), none, []⟩]) (.seq (.seq (.reg true [⟨some 11, .mv (.t 1), none, []⟩, ⟨some 12, .len true (.t 11), none, [0]⟩, ⟨some 13, .bin .gtr (.t 12) (.c (.int .i64 3000)), none, [1]⟩, ⟨some 14, .mv (.t 13), none, [2]⟩, ⟨some 15, .load true 5 (.t 2), some (14, false), [3]⟩, ⟨some 16, .call 21 [.t 15, .c (.int .i64 200)], some (14, false), [4, 3, 3]⟩, ⟨some 17, .un .not (.t 16), some (14, false), [5, 3]⟩, ⟨some 18, .pick (.t 14) (.c (.bool true)) (.t 17), none, [3, 6]⟩, ⟨some 19, .mv (.t 18), none, [7, 5]⟩, ⟨some 20, .load true 5 (.t 2), some (19, false), [8]⟩, ⟨some 21, .call 22 [.t 20], some (19, false), [9, 8, 8]⟩, ⟨some 22, .bin .neq (.t 21) (.c (.int .i64 0)), some (19, false), [10, 8]⟩, ⟨some 23, .pick (.t 19) (.c (.bool true)) (.t 22), none, [8, 11]⟩, ⟨some 24, .mv (.t 23), none, [12, 10]⟩, ⟨some 25, .load true 5 (.t 2), some (24, false), [13]⟩, ⟨some 26, .call 23 [.c (.str [120]), .t 25], some (24, false), [14, 13, 13]⟩, ⟨some 27, .load true 5 (.t 2), some (24, false), [13]⟩, ⟨some 28, .call 24 [.c (.str [120]), .t 27], some (24, false), [16, 15, 13]⟩, ⟨some 29, .bin .neq (.t 26) (.t 28), some (24, false), [15, 17, 13]⟩, ⟨some 30, .pick (.t 24) (.c (.bool true)) (.t 29), none, [13, 18]⟩]) (.cond (.t 30) (.seq (.reg false [⟨some 31, .mv (.t 1), none, []⟩, ⟨some 32, .len true (.t 31), none, []⟩, ⟨some 33, .bin .gtr (.t 32) (.c (.int .i64 3000)), none, []⟩, ⟨some 34, .mv (.t 33), none, []⟩, ⟨some 35, .load true 5 (.t 2), some (34, false), []⟩, ⟨some 36, .call 21 [.t 35, .c (.int .i64 200)], some (34, false), []⟩, ⟨some 37, .un .not (.t 36), some (34, false), []⟩, ⟨some 38, .pick (.t 34) (.c (.bool true)) (.t 37), none, []⟩, ⟨some 39, .mv (.t 38), none, []⟩, ⟨some 40, .load true 5 (.t 2), some (39, false), []⟩, ⟨some 41, .call 22 [.t 40], some (39, false), []⟩, ⟨some 42, .bin .neq (.t 41) (.c (.int .i64 0)), some (39, false), []⟩, ⟨some 43, .pick (.t 39) (.c (.bool true)) (.t 42), none, []⟩, ⟨some 44, .mv (.t 43), none, []⟩, ⟨some 45, .call 10 [], some (44, true), []⟩, ⟨some 46, .pick (.t 44) (.t 45) (.c (.bool false)), none, []⟩, ⟨some 4, .mv (.t 46), none, []⟩]) (.ret)) (.skip))) (.seq (.reg false [⟨some 47, .mv (.t 1), none, []⟩, ⟨some 48, .call 25 [.t 47], none, []⟩, ⟨some 5, .mv (.t 48), none, []⟩]) (.seq (.seq (.reg false [⟨some 49, .mv (.t 5), none, []⟩, ⟨some 50, .eq 1 [] false (.t 49) (.c (.nilp)), none, []⟩]) (.cond (.t 50) (.seq (.reg false [⟨some 4, .mv (.c (.bool false)), none, []⟩]) (.ret)) (.skip))) (.seq (.reg false [⟨some 52, .mv (.t 5), none, []⟩, ⟨some 53, .call 26 [.t 52], none, []⟩, ⟨some 51, .mv (.t 53), none, []⟩, ⟨some 54, .extract (.t 51) 0, none, []⟩, ⟨some 55, .extract (.t 51) 1, none, []⟩, ⟨some 6, .alloc 43 [.int .i64 0, .int .i64 0, .str [], .sl 0 .nil [], .sl 0 .nil []], none, []⟩, ⟨none, .store 5 (.t 6) (.t 54), none, []⟩, ⟨some 7, .mv (.t 55), none, []⟩]) (.seq (.reg false [⟨some 57, .mv (.t 1), none, []⟩, ⟨some 58, .call 28 [.t 57], none, []⟩, ⟨some 59, .call 27 [.t 58], none, []⟩, ⟨some 56, .mv (.t 59), none, []⟩, ⟨some 60, .extract (.t 56) 0, none, []⟩, ⟨some 61, .extract (.t 56) 1, none, []⟩, ⟨some 62, .extract (.t 56) 2, none, []⟩, ⟨some 8, .alloc 52 [.str [], .int .i64 0], none, []⟩, ⟨some 9, .alloc 43 [.int .i64 0, .int .i64 0, .str [], .sl 0 .nil [], .sl 0 .nil []], none, []⟩, ⟨none, .store 2 (.t 8) (.t 60), none, []⟩, ⟨none, .store 5 (.t 9) (.t 61), none, []⟩, ⟨some 10, .mv (.t 62), none, []⟩]) (.seq (.reg true [⟨some 63, .mv (.t 7), none, []⟩, ⟨some 64, .mv (.t 10), none, []⟩, ⟨some 65, .bin .eql (.t 63) (.t 64), none, [0, 1]⟩, ⟨some 66, .mv (.t 65), none, [2]⟩, ⟨some 67, .load true 5 (.t 6), some (66, true), [3]⟩, ⟨some 68, .load true 5 (.t 9), some (66, true), [3]⟩, ⟨some 69, .call 29 [.t 67, .t 68], some (66, true), [4, 5, 3, 3]⟩, ⟨some 70, .pick (.t 66) (.t 69) (.c (.bool false)), none, [3, 6]⟩, ⟨some 71, .mv (.t 70), none, [7, 6]⟩, ⟨some 72, .mv (.t 7), some (71, true), [8]⟩, ⟨some 73, .bin .neq (.t 72) (.c (.int .i64 0)), some (71, true), [9, 8]⟩, ⟨some 74, .mv (.t 73), some (71, true), [10, 8, 8]⟩, ⟨some 75, .mv (.t 5), some (74, false), [11]⟩, ⟨some 76, .call 30 [.t 75], some (74, false), [12, 11, 11]⟩, ⟨some 77, .load true 2 (.t 8), some (74, false), [11]⟩, ⟨some 78, .call 31 [.t 77], some (74, false), [14, 13, 11]⟩, ⟨some 79, .bin .eql (.t 76) (.t 78), some (74, false), [13, 15, 11]⟩, ⟨some 80, .pick (.t 74) (.c (.bool true)) (.t 79), some (71, true), [11, 16, 8]⟩, ⟨some 81, .pick (.t 71) (.t 80) (.c (.bool false)), none, [8, 17]⟩, ⟨some 82, .mv (.t 81), none, [18, 15]⟩, ⟨some 83, .call 10 [], some (82, true), [19, 19]⟩, ⟨some 84, .pick (.t 82) (.t 83) (.c (.bool false)), none, [19, 20]⟩, ⟨some 4, .mv (.t 84), none, [21, 20, 0, 1, 2, 3, 4, 5, 6, 7, 8, 9, 10, 11, 12, 13, 14, 15, 16, 17, 18, 19, 20, 21]⟩]) (.ret))))))), [.t 4]⟩
theorem h_lvalues : AX.compFn Tryz.prog 6 = some c_lvalues := by kernel_rfl

theorem rdr_loc (r : Wire.St) : (rdr r).loc 0 := rfl
theorem a_readValue1 {h : Hp} {i : Nat} {r : Wire.St} (hb : h.b[i]? = some (rdr r)) (hlen : r.rest.length ≤ 100000000) : ACall Tryz.prog GT 26 [.ptr i 0] h fun v h' => v = .tup [(Val.readValue r).2.2.A, .int .i64 (Val.readValue r).2.1] ∧ h' = ⟨h.b.set i (rdr (Val.readValue r).1), h.t⟩ := by
  have h1 : ACall Tryz.prog GT 26 [.ptr 0 0] ⟨[rdr r], []⟩ fun v h' => ∃ b', h'.b[0]? = some b' ∧ v = .tup [(Val.readValue r).2.2.A, .int .i64 (Val.readValue r).2.1] ∧ b' = rdr (Val.readValue r).1 :=
    (a_ReadValue r 0 ⟨[rdr r], []⟩ rfl hlen).mono fun v h' ⟨e, hp⟩ => ⟨_, hp.1, e, rfl⟩
  refine (ACall.lift1 h1 rfl (rdr_loc r) ?_ hb).mono ?_
  · rintro v b' ⟨rfl, rfl⟩
    refine ⟨?_, rdr_loc _⟩
    obtain ⟨k, n, s, is, ks⟩ := (Val.readValue r).2.2
    rfl
  · rintro v h' ⟨b', ⟨rfl, rfl⟩, rfl⟩
    exact ⟨rfl, rfl⟩
theorem readValue_err (r : Wire.St) : (if (Val.readValue r).2.1 = 0 then (Val.readValue r).2.2 else Val.zeroV) = (Val.readValue r).2.2 := by
  by_cases h : (Val.readValue r).2.1 = 0
  · rw [if_pos h]
  · rw [if_neg h]
    unfold Val.readValue at h ⊢
    dsimp only at h ⊢
    split
    · rfl
    · next h1 =>
      rw [if_neg h1] at h
      split
      · rfl
      · next h2 => rw [if_neg h2] at h; exact absurd (by simpa using h1) h
theorem readValue_lens (r : Wire.St) (hlen : r.rest.length ≤ 100000000) : (Val.readValue r).2.2.lens := by
  unfold Val.readValue
  dsimp only
  split
  · exact Val.zero_lens
  · split
    · exact Val.zero_lens
    · exact Val.read_lens 32 r hlen
theorem w_values (haw : Awake) (v : V) (hl : v.lens) (b : List UInt8) : ACall Tryz.prog GT 6 [v.A, .str b] ⟨[], []⟩ fun r _ => r = .bool true := by
  refine acall_of mixedT h_lvalues (by simp [c_lvalues]) ?_
  dsimp only [c_lvalues]
  obtain ⟨sm, hSm⟩ : ∃ b, ∀ h, ACall Tryz.prog GT 21 [v.A, .int .i64 200] h fun r h' => r = .bool b ∧ h' = h := ⟨_, fun h => a_rSmall v 200 (by decide) hl h⟩
  have hCk := fun h => a_rCheck v hl h
  have hAp := fun hc hb h => a_AppendValue [120] (by simp) v hc hb hl h
  have hAr := fun hc hb h => a_rAppendValue v [120] h hc hb hl
  have hbd := Val.enc_bound v 1 0
  have hnd := Val.chk_nodes v 1 0
  have hcz : Val.checkZ v = (Val.chk v 1 0).1 := rfl
  obtain ⟨k, n, s, is, ks⟩ := v
  have hVA : (V.mk k n s is ks).A = .agg [.int .i64 k, .int .i64 n, .str s, .sl 5 .no (V.cellss is), .sl 1 .no (strsA ks)] := by simp only [V.A, V.cells]
  rw [hVA] at hSm hCk hAp hAr ⊢
  by_cases hm : (b.length : Int) > 3000
  · (refine AX.run0 hm ?_)
    refine use (haw _) ?_
    (refine AX.run0 hm ?_)
    exact ⟨_, le_refl _, rfl⟩
  (refine AX.run0 hm ?_)
  refine use (hSm _) ?_
  rcases bool_or sm with rfl | rfl
  rotate_left
  · (refine AX.run0 hm ?_)
    refine use (hSm _) ?_
    (refine AX.run0 hm ?_)
    refine use (haw _) ?_
    (refine AX.run0 hm ?_)
    exact ⟨_, le_refl _, rfl⟩
  (refine AX.run0 hm ?_)
  refine use (hCk _) ?_
  by_cases hz : Val.checkZ (.mk k n s is ks) = 0
  rotate_left
  · have e1 : (Val.checkZ (.mk k n s is ks) != 0) = true := by simp [hz]
    (refine AX.run0 (And.intro hm e1) ?_)
    refine use (hSm _) ?_
    (refine AX.run0 hm ?_)
    refine use (hCk _) ?_
    (refine AX.run0 (And.intro hm e1) ?_)
    refine use (haw _) ?_
    (refine AX.run0 hm ?_)
    exact ⟨_, le_refl _, rfl⟩
  have e1 : (Val.checkZ (.mk k n s is ks) != 0) = false := by simp [hz]
  have hbd' := hbd (by rw [← hcz]; exact hz)
  have hnd' := hnd (by rw [← hcz]; exact hz)
  (refine AX.run0 (And.intro hm e1) ?_)
  refine use (hAp ⟨1, 0, by rw [← hcz]; exact hz⟩ (by omega) _) ?_
  (refine AX.run0 (And.intro hm e1) ?_)
  refine use (hAr ⟨1, 0, by rw [← hcz]; exact hz⟩ (by simp only [List.length_cons, List.length_nil]; omega) _) ?_
  (refine AX.run0 (And.intro hm e1) ?_)
  refine use (a_newReader _ _) ?_
  (refine AX.run0 True.intro ?_)
  have hlb : b.length ≤ 100000000 := by omega
  refine use (a_readValue1 (r := ⟨b, 0⟩) rfl hlb) ?_
  have hlens := readValue_lens ⟨b, 0⟩ hlb
  have herr := readValue_err ⟨b, 0⟩
  have hrr := a_rReadValue ⟨b, 0⟩ hlb
  obtain ⟨⟨x1, x2, x3⟩, hx⟩ : ∃ x, Val.readValue ⟨b, 0⟩ = x := ⟨_, rfl⟩
  have hA : RRA (x1, x2, x3) = .tup [.agg [.str x1.rest, .int .i64 x1.e], x3.A, .int .i64 x2] := by rw [hx] at herr; unfold RRA; dsimp only at herr ⊢; rw [herr]
  rw [hx] at hlens hrr ⊢
  rw [hA] at hrr
  have heq := fun h => t_rEqual x3 x3 hlens hlens h
  have hself := Val.eq_self x3
  obtain ⟨k', n', s', is', ks'⟩ := x3
  have hVB : (V.mk k' n' s' is' ks').A = .agg [.int .i64 k', .int .i64 n', .str s', .sl 5 .no (V.cellss is'), .sl 1 .no (strsA ks')] := by simp only [V.A, V.cells]
  dsimp only at heq ⊢
  rw [hVB] at heq hrr ⊢
  rw [hself] at heq
  (refine AX.run0 True.intro ?_)
  refine use (a_refNew _ _) ?_
  (refine AX.run0 True.intro ?_)
  refine use (hrr _) ?_
  (refine AX.run0 True.intro ?_)
  refine use (heq _) ?_
  by_cases hx0 : x2 = 0
  rotate_left
  · have e2 : (x2 != 0) = true := by simp [hx0]
    (refine AX.run0 e2 ?_)
    refine use (haw _) ?_
    (refine AX.run0 True.intro ?_)
    exact ⟨_, le_refl _, rfl⟩
  have e2 : (x2 != 0) = false := by simp [hx0]
  (refine AX.run0 e2 ?_)
  refine use (a_left (r := x1) rfl) ?_
  (refine AX.run0 True.intro ?_)
  refine use (a_refLeft x1 _) ?_
  (refine AX.run0 True.intro ?_)
  refine use (haw _) ?_
  (refine AX.run0 True.intro ?_)
  exact ⟨_, le_refl _, rfl⟩
end AX
end Go.Proofs.YtdikbljgmpbpjaaGreatDoor

namespace Go.Proofs.YtdikbljgmpbpjaaGreatDoor
open Go.RowKit

namespace AX
theorem w_values32 (v : V) (hw : v.Wf) (b : List UInt8) {n : Nat} (_k : n ≤ maxLen) : ACall Tryz.prog GT 6 [v.A, .str b] ⟨[], []⟩ fun r _ => r = .bool true := w_values awake32 v (V.Wf.lens v hw) b
end AX
end Go.Proofs.YtdikbljgmpbpjaaGreatDoor
