/- Part of what the proof needs. -/
import Derived.Test.YtnjkemakcejceaaGreatDoorMFrStoreNobodyC
import Derived.Test.YtnjkemakcejceaaGreatDoorMFrStoreNobodyH
import Derived.Test.YtnjkemakcejceaaGreatDoorMFrStoreNobodyI
import Derived.Test.YtnjkemakcejceaaGreatDoorMFrStoreNobodyJ
import Derived.Test.YtnjkemakcejceaaGreatDoorMFrStoreNobodyL
import Derived.Shelf.Slices.Clone
set_option linter.unusedSimpArgs false
set_option linter.unusedVariables false
set_option linter.unnecessarySimpa false
namespace Go.Proofs.YtnjkemakcejceaaGreatDoor
open Go.RowKit
set_option maxHeartbeats 4000000
namespace Str
theorem one_width (l : List UInt8) (hl : l ≠ []) (h : (one l).2.2 = 0) : (one l).2.1 ≤ l.length := by
 have hp := List.length_pos_iff.2 hl
 by_cases h92 : l.getD 0 0 = 92
 ·obtain ⟨⟨c, n, e⟩, he⟩ : ∃ x, escp (l.drop 1) = x := ⟨_, rfl⟩
  have h1 := one_esc l h92 c n e he
  rw [h1] at h ⊢
  by_cases h0 : e = 0
  ·rw [if_neg (by simp [h0])]
   have := escp_len (l.drop 1) (by rw [he]; exact h0)
   rw [he, List.length_drop] at this
   dsimp only at this ⊢
   omega
  ·rw [if_pos h0] at h
   exact absurd h h0
 ·obtain ⟨⟨c, n⟩, hd⟩ : ∃ x, Lib.decodeL l = x := ⟨_, rfl⟩
  have hc : c ≠ 92 := by
   rcases dec_cases l with ⟨q1, q2⟩ | ⟨q1, q2⟩
   ·rw [hd] at q2
    injection q2 with q2 q3
    intro e
    apply h92
    rw [← UInt8.toNat_inj]
    have : (l.getD 0 0).toNat = 92 := by omega
    simpa using this
   ·rw [hd] at q2
    dsimp only at q2
    omega
  by_cases hbad : (c = 65533 ∧ n = 1) ∨ c < 32 ∨ c = 127
  ·rw [one_bad l c n hd hc hbad] at h
   simp at h
  ·rw [one_ok l hl c n hd hc hbad]
   have := Lib.decodeL_le l hl
   rw [hd] at this
   exact this
theorem unq_width : ∀ (f : Nat) (l acc : List UInt8) (i N : Nat), i + l.length = N → (unq f l acc i).2.2 = 0 → (unq f l acc i).2.1 ≤ N
 | 0, l, acc, i, N, hN, h => by
  unfold unq at h ⊢
  simp at h ⊢
 | f + 1, l, acc, i, N, hN, h => by
  unfold unq at h ⊢
  split
  ·next h1 => rw [if_pos h1] at h; simp at h
  ·next h1 =>
   rw [if_neg h1] at h
   have hp := List.length_pos_iff.2 h1
   split
   ·next h2 =>
    rw [if_pos h2] at h
    split
    ·exact Nat.zero_le _
    ·dsimp only; omega
   ·next h2 =>
    rw [if_neg h2] at h
    split
    ·exact Nat.zero_le _
    ·next h3 =>
     rw [if_neg h3] at h
     have := one_width l h1 (by simpa using h3)
     exact unq_width f _ _ _ N (by rw [List.length_drop]; omega) h
theorem unquote_width (l : List UInt8) (h : (unquote l).2.2 = 0) : (unquote l).2.1 ≤ l.length := by
 unfold unquote at h ⊢
 split
 ·exact Nat.zero_le _
 ·next h1 =>
  rw [if_neg h1] at h
  split
  ·exact Nat.zero_le _
  ·next h2 =>
   rw [if_neg h2] at h
   have hp := List.length_pos_iff.2 h1
   exact unq_width _ _ _ _ l.length (by rw [List.length_drop]; omega) h
end Str
namespace AX
def c_rkey : AX.AFn := ⟨101, .seq (.reg false [⟨some 2, .alloc 131 [.int .i64 0, .int .i64 0, .str []], none, []⟩]) (.seq (.seq (.reg false [⟨some 10, .mv (.t 0), none, []⟩, ⟨some 11, .nilck (.t 10), none, []⟩, ⟨some 12, .faddr 1 (.t 11), none, []⟩, ⟨some 13, .load false 1 (.t 12), none, []⟩, ⟨some 14, .mv (.t 13), none, []⟩, ⟨some 15, .mv (.t 0), some (14, false), []⟩, ⟨some 16, .call 121 [.t 15, .c (.str [91])], some (14, false), []⟩, ⟨some 17, .un .not (.t 16), some (14, false), []⟩, ⟨some 18, .pick (.t 14) (.c (.bool true)) (.t 17), none, []⟩]) (.cond (.t 18) (.seq (.reg false [⟨some 19, .build [.int .i64 0, .int .i64 0, .str []] [], none, []⟩, ⟨none, .store 3 (.t 2) (.t 19), none, []⟩]) (.ret)) (.skip))) (.seq (.reg false [⟨some 3, .alloc 131 [.int .i64 0, .int .i64 0, .str []], none, []⟩]) (.seq (.seq (.reg false [⟨some 20, .mv (.t 0), none, []⟩, ⟨some 21, .nilck (.t 20), none, []⟩, ⟨some 22, .faddr 0 (.t 21), none, []⟩, ⟨some 23, .load false 1 (.t 22), none, []⟩, ⟨some 24, .call 48 [.t 23, .c (.str [34])], none, []⟩]) (.cond (.t 24) (.seq (.reg false [⟨some 26, .mv (.t 0), none, []⟩, ⟨some 27, .nilck (.t 26), none, []⟩, ⟨some 28, .faddr 0 (.t 27), none, []⟩, ⟨some 29, .load false 1 (.t 28), none, []⟩, ⟨some 30, .call 160 [.t 29], none, []⟩, ⟨some 25, .mv (.t 30), none, []⟩, ⟨some 31, .extract (.t 25) 0, none, []⟩, ⟨some 32, .extract (.t 25) 1, none, []⟩, ⟨some 33, .extract (.t 25) 2, none, []⟩, ⟨some 4, .mv (.t 31), none, []⟩, ⟨some 5, .mv (.t 32), none, []⟩, ⟨some 6, .mv (.t 33), none, []⟩]) (.seq (.seq (.reg true [⟨some 34, .mv (.t 6), none, []⟩, ⟨some 35, .bin .neq (.t 34) (.c (.int .i64 0)), none, [0]⟩, ⟨some 36, .mv (.t 35), none, [1]⟩, ⟨some 37, .mv (.t 4), some (36, false), [2]⟩, ⟨some 38, .call 161 [.t 37], some (36, false), [3, 2, 2]⟩, ⟨some 39, .mv (.t 0), some (36, false), [2]⟩, ⟨some 40, .nilck (.t 39), some (36, false), [5, 2]⟩, ⟨some 41, .faddr 0 (.t 40), some (36, false), [6, 2]⟩, ⟨some 42, .load false 1 (.t 41), some (36, false), [7, 2]⟩, ⟨some 43, .mv (.t 5), some (36, false), [2]⟩, ⟨some 44, .ssl (.t 42) none (some (.t 43)), some (36, false), [8, 9, 2]⟩, ⟨some 45, .bin .neq (.t 38) (.t 44), some (36, false), [4, 10, 2]⟩, ⟨some 46, .pick (.t 36) (.c (.bool true)) (.t 45), none, [2, 11]⟩]) (.cond (.t 46) (.seq (.reg false [⟨some 47, .mv (.t 0), none, []⟩, ⟨some 48, .nilck (.t 47), none, []⟩, ⟨some 49, .faddr 1 (.t 48), none, []⟩, ⟨none, .store 1 (.t 49) (.c (.bool true)), none, []⟩]) (.seq (.reg false [⟨some 50, .load true 3 (.t 3), none, []⟩, ⟨none, .store 3 (.t 2) (.t 50), none, []⟩]) (.ret))) (.skip))) (.seq (.reg false [⟨some 51, .mv (.t 4), none, []⟩, ⟨some 52, .build [.int .i64 0, .int .i64 0, .str []] [(0, 1, .c (.int .i64 2)), (2, 1, .t 51)], none, []⟩, ⟨none, .store 3 (.t 3) (.t 52), none, []⟩]) (.reg false [⟨some 53, .mv (.t 0), none, []⟩, ⟨some 54, .mv (.t 0), none, []⟩, ⟨some 55, .nilck (.t 54), none, []⟩, ⟨some 56, .faddr 0 (.t 55), none, []⟩, ⟨some 57, .load false 1 (.t 56), none, []⟩, ⟨some 58, .mv (.t 5), none, []⟩, ⟨some 59, .ssl (.t 57) (some (.t 58)) none, none, []⟩, ⟨some 60, .nilck (.t 53), none, []⟩, ⟨some 61, .faddr 0 (.t 60), none, []⟩, ⟨none, .store 1 (.t 61) (.t 59), none, []⟩])))) (.seq (.reg false [⟨some 62, .mv (.t 0), none, []⟩, ⟨some 63, .nilck (.t 62), none, []⟩, ⟨some 64, .faddr 0 (.t 63), none, []⟩, ⟨some 65, .load false 1 (.t 64), none, []⟩, ⟨some 66, .call 162 [.t 65, .c (.int .u8 93)], none, []⟩, ⟨some 67, .mm true (.t 66) (.c (.int .i64 0)), none, []⟩, ⟨some 7, .mv (.t 67), none, []⟩]) (.seq (.reg false [⟨some 69, .mv (.t 0), none, []⟩, ⟨some 70, .nilck (.t 69), none, []⟩, ⟨some 71, .faddr 0 (.t 70), none, []⟩, ⟨some 72, .load false 1 (.t 71), none, []⟩, ⟨some 73, .mv (.t 7), none, []⟩, ⟨some 74, .ssl (.t 72) none (some (.t 73)), none, []⟩, ⟨some 75, .call 114 [.t 74], none, []⟩, ⟨some 68, .mv (.t 75), none, []⟩, ⟨some 76, .extract (.t 68) 0, none, []⟩, ⟨some 77, .extract (.t 68) 1, none, []⟩, ⟨some 8, .mv (.t 76), none, []⟩, ⟨some 9, .mv (.t 77), none, []⟩]) (.seq (.reg false [⟨some 78, .mv (.t 0), none, []⟩, ⟨some 79, .mv (.t 9), none, []⟩, ⟨some 80, .bin .neq (.t 79) (.c (.int .i64 0)), none, []⟩, ⟨some 81, .mv (.t 80), none, []⟩, ⟨some 82, .mv (.t 8), some (81, false), []⟩, ⟨some 83, .bin .lss (.t 82) (.c (.int .i64 0)), some (81, false), []⟩, ⟨some 84, .pick (.t 81) (.c (.bool true)) (.t 83), none, []⟩, ⟨some 85, .nilck (.t 78), none, []⟩, ⟨some 86, .faddr 1 (.t 85), none, []⟩, ⟨none, .store 1 (.t 86) (.t 84), none, []⟩]) (.seq (.reg false [⟨some 87, .mv (.t 8), none, []⟩, ⟨some 88, .build [.int .i64 0, .int .i64 0, .str []] [(0, 1, .c (.int .i64 1)), (1, 1, .t 87)], none, []⟩, ⟨none, .store 3 (.t 3) (.t 88), none, []⟩]) (.reg false [⟨some 89, .mv (.t 0), none, []⟩, ⟨some 90, .mv (.t 0), none, []⟩, ⟨some 91, .nilck (.t 90), none, []⟩, ⟨some 92, .faddr 0 (.t 91), none, []⟩, ⟨some 93, .load false 1 (.t 92), none, []⟩, ⟨some 94, .mv (.t 7), none, []⟩, ⟨some 95, .ssl (.t 93) (some (.t 94)) none, none, []⟩, ⟨some 96, .nilck (.t 89), none, []⟩, ⟨some 97, .faddr 0 (.t 96), none, []⟩, ⟨none, .store 1 (.t 97) (.t 95), none, []⟩]))))))) (.seq (.reg false [⟨some 98, .mv (.t 0), none, []⟩, ⟨some 99, .call 123 [.t 98, .c (.str [93])], none, []⟩]) (.seq (.reg false [⟨some 100, .load true 3 (.t 3), none, []⟩, ⟨none, .store 3 (.t 2) (.t 100), none, []⟩]) (.ret)))))), [.c 2 true 3]⟩
theorem h_rkey : AX.compFn Tryz.prog 125 = some c_rkey := by kernel_rfl
def c_rstep : AX.AFn := ⟨11, .seq (.reg false [⟨some 2, .alloc 175 [.str [], .int .i64 0, .int .i64 0, .str []], none, []⟩]) (.seq (.reg false [⟨some 4, .mv (.t 0), none, []⟩, ⟨some 5, .call 124 [.t 4], none, []⟩, ⟨some 6, .build [.str [], .int .i64 0, .int .i64 0, .str []] [(0, 1, .t 5)], none, []⟩, ⟨some 3, .alloc 175 [.str [], .int .i64 0, .int .i64 0, .str []], none, []⟩, ⟨none, .store 4 (.t 3) (.t 6), none, []⟩]) (.seq (.reg false [⟨some 7, .mv (.t 0), none, []⟩, ⟨some 8, .call 125 [.t 7], none, []⟩, ⟨some 9, .faddr 1 (.t 3), none, []⟩, ⟨none, .store 3 (.t 9) (.t 8), none, []⟩]) (.seq (.reg false [⟨some 10, .load true 4 (.t 3), none, []⟩, ⟨none, .store 4 (.t 2) (.t 10), none, []⟩]) (.ret)))), [.c 2 true 4]⟩
theorem h_rstep : AX.compFn Tryz.prog 122 = some c_rstep := by kernel_rfl
theorem glob_of {w : World} (g : GT w) : Glob w := ⟨g.tabs, g.tz⟩
theorem a_unquote (s : List UInt8) (hs : s.length ≤ 2000000) (h : Hp) : ACall Tryz.prog GT 160 [.str s] h fun r h' => r = .tup [.str (Str.unquote s).1, .int .i64 (Str.unquote s).2.1, .int .i64 (Str.unquote s).2.2] ∧ h' = h :=
 acall_imp (args1 r_str) (fun w hg => unquote_any ⟨s.toArray⟩ w (by rw [size_mk]; exact hs) (glob_of hg)) (fun C => rep_tup.2 ⟨_, rfl, repL_cons.2 ⟨_, _, rfl, rep_str.2 rfl, repL_cons.2 ⟨_, _, rfl, rep_int.2 rfl, repL_cons.2 ⟨_, _, rfl, rep_int.2 rfl, repL_nil.2 rfl⟩⟩⟩⟩) h
theorem a_quote (s : List UInt8) (hs : s.length ≤ 2000000) (h : Hp) : ACall Tryz.prog GT 161 [.str s] h fun r h' => r = .str (Str.quote s) ∧ h' = h :=
 acall_imp (args1 r_str) (fun w hg => quote_any ⟨s.toArray⟩ w (by rw [size_mk]; exact hs) (glob_of hg)) (fun C => rep_str.2 rfl) h
theorem pre_begins (s p : List UInt8) : (decide (p.length ≤ s.length) && s.take p.length == p) = Adr.begins s p := by
 unfold Adr.begins
 rw [Bool.eq_iff_iff, List.isPrefixOf_iff_prefix, List.prefix_iff_eq_take, Bool.and_eq_true, decide_eq_true_eq, beq_iff_eq]
 constructor
 ·rintro ⟨h1, h2⟩; exact h2.symm
 ·intro h2
  exact ⟨by have := congrArg List.length h2; rw [List.length_take] at this; omega, h2.symm⟩
theorem w_key (r : Adr.Rd) (hl : r.rest.length ≤ 2000000) {h : Hp} {i : Nat} (hb : h.b[i]? = some (adB r)) :
  ACall Tryz.prog GT 125 [.ptr i 0] h fun v h' => v = Adr.K.A (Adr.keyP r).1 ∧ h' = ⟨h.b.set i (adB (Adr.keyP r).2), h.t⟩ := by
 have key : ACall Tryz.prog GT 125 [.ptr 0 0] ⟨[adB r], []⟩ fun v h' => ∃ b', h'.b[0]? = some b' ∧ v = Adr.K.A (Adr.keyP r).1 ∧ b' = adB (Adr.keyP r).2 := by
  refine acall_of mixedT h_rkey (by simp [c_rkey]) ?_
  dsimp only [c_rkey]
  have hh := fun h hb => w_has [91] r (h := h) (i := 0) hb
  obtain ⟨Z, hZ⟩ : ∃ Z, Adr.keyP r = Z := ⟨_, rfl⟩
  rw [hZ]
  unfold Adr.keyP at hZ
  unfold Adr.hasP at hh
  unfold adB at hh ⊢
  obtain ⟨rest, bad⟩ := r
  dsimp only at hl hh hZ
  cases bad
  rotate_left
  ·rw [if_pos rfl] at hZ
   subst hZ
   (refine AX.run0 True.intro ?_)
   exact ⟨_, le_refl _, _, rfl, rfl, rfl⟩
  rw [if_neg (by decide)] at hZ
  (refine AX.run0 True.intro ?_)
  refine use (hh _ rfl) ?_
  cases hB : Adr.begins rest [91]
  ·rw [hB, if_pos rfl] at hZ
   subst hZ
   (refine AX.run0 True.intro ?_)
   exact ⟨_, le_refl _, _, rfl, rfl, rfl⟩
  rw [hB, if_neg (by decide)] at hZ
  obtain ⟨t, ht⟩ : ∃ t, rest.drop 1 = t := ⟨_, rfl⟩
  have ht1 : rest.drop [91].length = t := ht
  have htl : t.length ≤ 2000000 := by rw [← ht, List.length_drop]; omega
  rw [ht] at hZ
  have hp := fun h => a_hasPrefix t [34] h
  rw [pre_begins] at hp
  have hu := fun h => a_unquote t htl h
  have hsk := fun (q : Adr.Rd) h hb => w_skip [93] q (h := h) (i := 0) hb
  unfold adB at hsk
  (refine AX.run0 (And.intro ht1 ht) ?_)
  refine use (hp _) ?_
  cases hQ : Adr.begins t [34]
  ·rw [hQ, if_neg (by decide)] at hZ
   (refine AX.run0 True.intro ?_)
   refine use (a_indexByte t _) ?_
   have hk := Adr.indexByte_key t
   obtain ⟨n, hn, hnle, hix⟩ : ∃ n : Nat, (if t.all (· != 93) then 0 else (t.takeWhile (· != 93)).length) = n ∧ n ≤ t.length ∧ (Lib.indexByte t 93 = (n : Int) ∨ (Lib.indexByte t 93 = -1 ∧ n = 0)) := by
    rcases hk with ⟨k1, k2⟩ | ⟨k1, k2, k3⟩
    ·exact ⟨0, by rw [if_pos k1], Nat.zero_le _, .inr ⟨k2, rfl⟩⟩
    ·exact ⟨_, by rw [k1, if_neg (by decide)], k3, .inl k2⟩
   rw [hn] at hZ
   have hmax : (if (0 : Int) > Lib.indexByte t 93 then 0 else Lib.indexByte t 93) = (n : Int) := by
    rcases hix with e | ⟨e, e2⟩
    ·rw [e, if_neg (by omega)]
    ·rw [e, e2]; rfl
   have htk : (t.take n).length ≤ 2000000 := by rw [List.length_take]; omega
   have hnp := fun h => a_numParse (t.take n) htk h
   have l0 : (0 : Int) ≤ (n : Int) := by omega
   have l1 : (n : Int) ≤ (t.length : Int) := by omega
   obtain ⟨⟨x, e⟩, hx⟩ : ∃ q, Num.parse (t.take n) = q := ⟨_, rfl⟩
   rw [hx] at hnp hZ
   dsimp only at hnp hZ
   (refine AX.run0 (And.intro hmax (And.intro l0 l1)) ?_)
   refine use (hnp _) ?_
   have hbad : ∃ b, (e != 0 || decide (x < 0)) = b := ⟨_, rfl⟩
   obtain ⟨b, hb⟩ := hbad
   rw [hb] at hZ
   subst hZ
   by_cases he : e = 0
   ·have e1 : (e != 0) = false := by simp [he]
    rw [e1, Bool.false_or] at hb
    (refine AX.run0 (And.intro e1 (And.intro hb (And.intro l0 l1))) ?_)
    refine use (hsk ⟨t.drop n, b⟩ _ rfl) ?_
    (refine AX.run0 True.intro ?_)
    exact ⟨_, le_refl _, _, rfl, rfl, rfl⟩
   ·have e1 : (e != 0) = true := by simp [he]
    rw [e1, Bool.true_or] at hb
    subst hb
    (refine AX.run0 (And.intro e1 (And.intro l0 l1)) ?_)
    refine use (hsk ⟨t.drop n, true⟩ _ rfl) ?_
    (refine AX.run0 True.intro ?_)
    exact ⟨_, le_refl _, _, rfl, rfl, rfl⟩
  ·rw [hQ, if_pos rfl] at hZ
   (refine AX.run0 True.intro ?_)
   refine use (hu _) ?_
   have hw := Str.unquote_width t
   have hv := Str.unquote_valid t
   obtain ⟨⟨us, un, ue⟩, hue⟩ : ∃ q, Str.unquote t = q := ⟨_, rfl⟩
   rw [hue] at hZ hw hv ⊢
   dsimp only at hZ hw hv ⊢
   by_cases he : ue = 0
   rotate_left
   ·have e1 : (ue != 0) = true := by simp [he]
    rw [if_pos (.inl he)] at hZ
    subst hZ
    (refine AX.run0 e1 ?_)
    exact ⟨_, le_refl _, _, rfl, rfl, rfl⟩
   have e1 : (ue != 0) = false := by simp [he]
   have hul : us.length ≤ 2000000 := by
    have := hv he
    unfold Str.valid at this
    rw [Bool.and_eq_true, decide_eq_true_eq] at this
    omega
   have l1 : (un : Int) ≤ (t.length : Int) := by have := hw he; omega
   have l0 : (0 : Int) ≤ (un : Int) := by omega
   (refine AX.run0 (And.intro e1 (And.intro l0 l1)) ?_)
   refine use (a_quote us hul _) ?_
   cases hne : Str.quote us != t.take un
   ·rw [if_neg (by rintro (h | h); exact h he; rw [bne_eq_false_iff_eq] at hne; exact h hne)] at hZ
    subst hZ
    (refine AX.run0 (And.intro e1 (And.intro hne (And.intro l0 l1))) ?_)
    refine use (hsk ⟨t.drop un, false⟩ _ rfl) ?_
    (refine AX.run0 True.intro ?_)
    exact ⟨_, le_refl _, _, rfl, rfl, rfl⟩
   ·rw [if_pos (.inr (bne_iff_ne.1 hne))] at hZ
    subst hZ
    (refine AX.run0 (And.intro e1 (And.intro hne (And.intro l0 l1))) ?_)
    exact ⟨_, le_refl _, _, rfl, rfl, rfl⟩
 refine (ACall.lift1 key rfl (adB_loc r) ?_ hb).mono ?_
 ·rintro v b' ⟨rfl, rfl⟩; exact ⟨rfl, adB_loc _⟩
 ·rintro v h' ⟨b', ⟨rfl, rfl⟩, rfl⟩; exact ⟨rfl, rfl⟩
end AX
end Go.Proofs.YtnjkemakcejceaaGreatDoor

namespace Go.Proofs.YtnjkemakcejceaaGreatDoor
open Go.RowKit
set_option maxHeartbeats 4000000
namespace Adr
theorem has_len (p : List UInt8) (r : Rd) : (hasP p r).2.rest.length ≤ r.rest.length := by
 unfold hasP; split
 ·rw [List.length_drop]; omega
 ·exact Nat.le_refl _
theorem has_less (p : List UInt8) (r : Rd) (h : begins r.rest p = true) : (hasP p r).2.rest.length + p.length = r.rest.length := by
 have := begins_len h
 unfold hasP; rw [if_pos h]; dsimp only; rw [List.length_drop]; omega
theorem takeW_len {p : UInt8 → Bool} (s : List UInt8) : (s.takeWhile p).length ≤ s.length := List.Sublist.length_le (List.takeWhile_sublist p)
theorem dropW_len {p : UInt8 → Bool} (s : List UInt8) : (s.dropWhile p).length ≤ s.length := List.Sublist.length_le (List.dropWhile_sublist p)
theorem word_len (r : Rd) : (wordP r).2.rest.length ≤ r.rest.length ∧ (wordP r).1.length ≤ r.rest.length := ⟨dropW_len _, takeW_len _⟩
theorem skip_len (p : List UInt8) (r : Rd) : (skipP p r).rest.length ≤ r.rest.length := by
 unfold skipP; split
 ·dsimp only; rw [List.length_drop]; omega
 ·exact Nat.le_refl _
theorem key_len (r : Rd) : (keyP r).2.rest.length ≤ r.rest.length := by
 unfold keyP
 split
 ·exact Nat.le_refl _
 ·split
  ·exact Nat.le_refl _
  ·dsimp only
   split
   ·split
    ·dsimp only; rw [List.length_drop]; omega
    ·refine Nat.le_trans (skip_len _ _) ?_
     dsimp only; rw [List.length_drop, List.length_drop]; omega
   ·refine Nat.le_trans (skip_len _ _) ?_
    dsimp only; rw [List.length_drop, List.length_drop]; omega
theorem step_len (r : Rd) : (stepP r).2.rest.length ≤ r.rest.length := Nat.le_trans (key_len _) (word_len r).1
end Adr
namespace AX
def c_aparse : AX.AFn := ⟨65, .seq (.reg false [⟨some 2, .alloc 133 [.sl 0 .nil [], .bool false, .str [], .str [], .int .i64 0, .int .i64 0, .str []], none, []⟩, ⟨some 3, .mv (.c (.int .i64 0)), none, []⟩]) (.seq (.reg false [⟨some 6, .mv (.t 0), none, []⟩, ⟨some 7, .build [.str [], .bool false] [(0, 1, .t 6)], none, []⟩, ⟨some 8, .box 173 (.t 7), none, []⟩, ⟨some 4, .mv (.t 8), none, []⟩]) (.seq (.reg false [⟨some 5, .alloc 133 [.sl 0 .nil [], .bool false, .str [], .str [], .int .i64 0, .int .i64 0, .str []], none, []⟩]) (.seq (.block 0 (.loop (.seq (.seq (.reg false [⟨some 9, .mv (.t 4), none, []⟩, ⟨some 10, .nilck (.t 9), none, []⟩, ⟨some 11, .faddr 1 (.t 10), none, []⟩, ⟨some 12, .load false 1 (.t 11), none, []⟩, ⟨some 13, .un .not (.t 12), none, []⟩, ⟨some 14, .mv (.t 13), none, []⟩, ⟨some 15, .mv (.t 4), some (14, true), []⟩, ⟨some 16, .call 121 [.t 15, .c (.str [109, 111, 100, 117, 108, 101, 46])], some (14, true), []⟩, ⟨some 17, .pick (.t 14) (.t 16) (.c (.bool false)), none, []⟩]) (.cond (.t 17) (.skip) (.exit 0))) (.block 1 (.seq (.reg true [⟨some 18, .faddr 0 (.t 5), none, []⟩, ⟨some 19, .load false 1 (.t 18), none, [0]⟩, ⟨some 20, .mv (.t 4), none, []⟩, ⟨some 21, .call 122 [.t 20], none, [2]⟩, ⟨some 22, .mks 4 [.t 21], none, [3]⟩, ⟨some 23, .app 175 4 48 (.t 19) (.t 22), none, [1, 4, 3]⟩, ⟨some 24, .faddr 0 (.t 5), none, [0, 1, 2, 3, 4, 5]⟩, ⟨none, .store 1 (.t 24) (.t 23), none, [6, 5, 5, 0, 1, 2, 3, 4, 5]⟩]) (.reg false [⟨some 25, .mv (.t 4), none, []⟩, ⟨some 26, .call 123 [.t 25, .c (.str [46])], none, []⟩])))))) (.seq (.reg false [⟨some 27, .mv (.t 4), none, []⟩, ⟨some 28, .call 121 [.t 27, .c (.str [100, 97, 116, 97, 46])], none, []⟩, ⟨some 29, .faddr 1 (.t 5), none, []⟩, ⟨none, .store 1 (.t 29) (.t 28), none, []⟩]) (.seq (.reg false [⟨some 30, .mv (.t 4), none, []⟩, ⟨some 31, .call 124 [.t 30], none, []⟩, ⟨some 32, .faddr 2 (.t 5), none, []⟩, ⟨none, .store 1 (.t 32) (.t 31), none, []⟩]) (.seq (.reg false [⟨some 33, .mv (.t 4), none, []⟩, ⟨some 34, .call 123 [.t 33, .c (.str [46])], none, []⟩]) (.seq (.reg false [⟨some 35, .mv (.t 4), none, []⟩, ⟨some 36, .call 124 [.t 35], none, []⟩, ⟨some 37, .faddr 3 (.t 5), none, []⟩, ⟨none, .store 1 (.t 37) (.t 36), none, []⟩]) (.seq (.reg false [⟨some 38, .mv (.t 4), none, []⟩, ⟨some 39, .call 125 [.t 38], none, []⟩, ⟨some 40, .faddr 4 (.t 5), none, []⟩, ⟨none, .store 3 (.t 40) (.t 39), none, []⟩]) (.seq (.seq (.reg false [⟨some 41, .mv (.t 4), none, []⟩, ⟨some 42, .nilck (.t 41), none, []⟩, ⟨some 43, .faddr 1 (.t 42), none, []⟩, ⟨some 44, .load false 1 (.t 43), none, []⟩, ⟨some 45, .mv (.t 44), none, []⟩, ⟨some 46, .mv (.t 4), some (45, false), []⟩, ⟨some 47, .nilck (.t 46), some (45, false), []⟩, ⟨some 48, .faddr 0 (.t 47), some (45, false), []⟩, ⟨some 49, .load false 1 (.t 48), some (45, false), []⟩, ⟨some 50, .bin .neq (.t 49) (.c (.str [])), some (45, false), []⟩, ⟨some 51, .pick (.t 45) (.c (.bool true)) (.t 50), none, []⟩, ⟨some 52, .mv (.t 51), none, []⟩, ⟨some 53, .faddr 2 (.t 5), some (52, false), []⟩, ⟨some 54, .load false 1 (.t 53), some (52, false), []⟩, ⟨some 55, .call 126 [.t 54], some (52, false), []⟩, ⟨some 56, .un .not (.t 55), some (52, false), []⟩, ⟨some 57, .pick (.t 52) (.c (.bool true)) (.t 56), none, []⟩]) (.cond (.t 57) (.seq (.reg false [⟨some 58, .build [.sl 0 .nil [], .bool false, .str [], .str [], .int .i64 0, .int .i64 0, .str []] [], none, []⟩, ⟨none, .store 7 (.t 2) (.t 58), none, []⟩, ⟨some 3, .mv (.c (.int .i64 2)), none, []⟩]) (.ret)) (.skip))) (.seq (.seq (.reg false [⟨some 59, .faddr 0 (.t 5), none, []⟩, ⟨some 60, .load false 1 (.t 59), none, []⟩, ⟨some 61, .len false (.t 60), none, []⟩, ⟨some 62, .bin .gtr (.t 61) (.c (.int .i64 16)), none, []⟩]) (.cond (.t 62) (.seq (.reg false [⟨some 63, .build [.sl 0 .nil [], .bool false, .str [], .str [], .int .i64 0, .int .i64 0, .str []] [], none, []⟩, ⟨none, .store 7 (.t 2) (.t 63), none, []⟩, ⟨some 3, .mv (.c (.int .i64 4)), none, []⟩]) (.ret)) (.skip))) (.seq (.reg false [⟨some 64, .load true 7 (.t 5), none, []⟩, ⟨none, .store 7 (.t 2) (.t 64), none, []⟩, ⟨some 3, .mv (.c (.int .i64 0)), none, []⟩]) (.ret)))))))))))), [.c 2 true 7, .t 3]⟩
theorem h_aparse : AX.compFn Tryz.prog 81 = some c_aparse := by kernel_rfl
theorem w_step (r : Adr.Rd) (hl : r.rest.length ≤ 2000000) {h : Hp} {i : Nat} (hb : h.b[i]? = some (adB r)) :
  ACall Tryz.prog GT 122 [.ptr i 0] h fun v h' => v = .agg (Adr.stepP r).1.cells ∧ h' = ⟨h.b.set i (adB (Adr.stepP r).2), h.t⟩ := by
 have key : ACall Tryz.prog GT 122 [.ptr 0 0] ⟨[adB r], []⟩ fun v h' => ∃ b', h'.b[0]? = some b' ∧ v = .agg (Adr.stepP r).1.cells ∧ b' = adB (Adr.stepP r).2 := by
  refine acall_of mixedT h_rstep (by simp [c_rstep]) ?_
  dsimp only [c_rstep]
  have hw := fun h hb => w_word r hl (h := h) (i := 0) hb
  have hk := fun h hb => w_key (Adr.wordP r).2 (Nat.le_trans (Adr.word_len r).1 hl) (h := h) (i := 0) hb
  have hS : Adr.stepP r = (⟨(Adr.wordP r).1, (Adr.keyP (Adr.wordP r).2).1⟩, (Adr.keyP (Adr.wordP r).2).2) := rfl
  rw [hS]
  obtain ⟨⟨w, r1⟩, h1⟩ : ∃ q, Adr.wordP r = q := ⟨_, rfl⟩
  rw [h1] at hw hk ⊢
  dsimp only at hw hk ⊢
  obtain ⟨⟨⟨kd, kn, ks⟩, r2⟩, h2⟩ : ∃ q, Adr.keyP r1 = q := ⟨_, rfl⟩
  rw [h2] at hk ⊢
  dsimp only [Adr.K.A] at hk ⊢
  unfold adB at hw hk ⊢
  (refine AX.run0 True.intro ?_)
  refine use (hw _ rfl) ?_
  (refine AX.run0 True.intro ?_)
  refine use (hk _ rfl) ?_
  (refine AX.run0 True.intro ?_)
  exact ⟨_, le_refl _, _, rfl, rfl, rfl⟩
 refine (ACall.lift1 key rfl (adB_loc r) ?_ hb).mono ?_
 ·rintro v b' ⟨rfl, rfl⟩; exact ⟨rfl, adB_loc _⟩
 ·rintro v h' ⟨b', ⟨rfl, rfl⟩, rfl⟩; exact ⟨rfl, rfl⟩
theorem a_parse (s : List UInt8) (hs : s.length ≤ 2000000) (h : Hp) : ACall Tryz.prog GT 81 [.str s] h fun r h' => r = .tup [.agg (Adr.parse s).1.cells, .int .i64 (Adr.parse s).2] ∧ h' = h := by
 rw [← Adr.parse_eq]
 refine pcall ?_ rfl (by simp [A.pure, A.data]) h
 refine acall_of mixedT h_aparse (by simp [c_aparse]) ?_
 dsimp only [c_aparse]
 obtain ⟨⟨M, RM⟩, hM⟩ : ∃ q, Adr.modsP (s.length + 1) ⟨s, false⟩ [] = q := ⟨_, rfl⟩
 obtain ⟨F, hF⟩ : ∃ F, Adr.parseP s = F := ⟨_, rfl⟩
 rw [hF]
 unfold Adr.parseP at hF
 rw [hM] at hF
 dsimp only at hF
 (refine AX.run0 True.intro ?_)
 refine awp_loop (fun mm ts h => ∃ (r : Adr.Rd) (l : List Adr.Step) (W : Nat) (o : Own) (t : List (TypeId × Nat × Nat)), r.rest.length < mm ∧ mm + l.length = s.length + 1 ∧ Adr.modsP mm r l = (M, RM) ∧
  h = ⟨[.cells 133 [.sl 0 .nil [], .bool false, .str [], .str [], .int .i64 0, .int .i64 0, .str []], .cells 173 [.str r.rest, .bool r.bad], .cells 133 [.sl W o (l.map Adr.Step.cells), .bool false, .str [], .str [], .int .i64 0, .int .i64 0, .str []]], t⟩ ∧
  Gs 175 4 0 ⟨[], t⟩ (l.map Adr.Step.cells) (.sl W o (l.map Adr.Step.cells)) ∧ ts 2 = .ptr 0 0 ∧ ts 3 = .int .i64 0 ∧ ts 4 = .ptr 1 0 ∧ ts 5 = .ptr 2 0) (s.length + 1) ?_ ?_
 ·exact ⟨⟨s, false⟩, [], 0, .nil, [], by dsimp only; omega, by simp, hM, rfl, .inl ⟨rfl, rfl⟩, by (exact AX.ev0 True.intro), by (exact AX.ev0 True.intro), by (exact AX.ev0 True.intro), by (exact AX.ev0 True.intro)⟩
 rintro mm ts h ⟨r, l, W, o, t, hrm, hml, hmod, rfl, gX, t2, t3, t4, t5⟩
 cases mm with
 | zero => omega
 | succ f =>
 unfold Adr.modsP at hmod
 by_cases hgo : r.bad = false ∧ Adr.begins r.rest Adr.modW = true
 ·rw [if_pos hgo] at hmod
  have hmw : Adr.modW = [109, 111, 100, 117, 108, 101, 46] := rfl
  have cH := fun h hb => w_has Adr.modW r (h := h) (i := 1) hb
  have l1 := Adr.has_less Adr.modW r hgo.2
  have hh1 : (Adr.hasP Adr.modW r).1 = true := by unfold Adr.hasP; rw [if_pos hgo.2]
  rw [hh1] at cH
  have l7 : Adr.modW.length = 7 := rfl
  have hr0 : r.bad = false := hgo.1
  obtain ⟨r1, hr1⟩ : ∃ q, (Adr.hasP Adr.modW r).2 = q := ⟨_, rfl⟩
  rw [hr1] at cH l1 hmod
  have cS := fun h hb => w_step r1 (by omega) (h := h) (i := 1) hb
  have l2 := Adr.step_len r1
  obtain ⟨⟨⟨nm, ⟨kd, kn, ks⟩⟩, r2⟩, hr2⟩ : ∃ q, Adr.stepP r1 = q := ⟨_, rfl⟩
  rw [hr2] at cS l2 hmod
  dsimp only [Adr.Step.cells] at cS l2 hmod
  have cK := fun h hb => w_skip [46] r2 (h := h) (i := 1) hb
  have l3 := Adr.skip_len [46] r2
  obtain ⟨r3, hr3⟩ : ∃ q, Adr.skipP [46] r2 = q := ⟨_, rfl⟩
  rw [hr3] at cK l3 hmod
  unfold adB at cH cS cK
  rw [hmw] at cH
  rw [hr0] at cH
  obtain ⟨W', o', t', hX, gX', _⟩ := gX.grow 48 [.str nm, .int .i64 kd, .int .i64 kn, .str ks] (by rw [List.length_map]; omega) (by decide)
  have hcat : l.map Adr.Step.cells ++ [[.str nm, .int .i64 kd, .int .i64 kn, .str ks]] = (l ++ [(⟨nm, ⟨kd, kn, ks⟩⟩ : Adr.Step)]).map Adr.Step.cells := by rw [List.map_append]; rfl
  rw [hcat] at gX'
  simp only [hcat] at hX
  rw [hr0]
  (refine AX.run0 (And.intro t2 (And.intro t3 (And.intro t4 t5))) ?_)
  refine use (cH _ rfl) ?_
  (refine AX.run0 (And.intro t2 (And.intro t3 (And.intro t4 t5))) ?_)
  refine use (cS _ rfl) ?_
  (refine AX.run0 (And.intro t2 (And.intro t3 (And.intro t4 (And.intro t5 hX)))) ?_)
  refine use (cK _ rfl) ?_
  (refine AX.run0 (And.intro t2 (And.intro t3 (And.intro t4 t5))) ?_)
  exact ⟨f, by omega, r3, l ++ [(⟨nm, ⟨kd, kn, ks⟩⟩ : Adr.Step)], W', o', t', by omega, by simp; omega, hmod, rfl, gX', by (exact AX.ev0 t2), by (exact AX.ev0 t3), by (exact AX.ev0 t4), by (exact AX.ev0 t5)⟩
 ·rw [if_neg hgo] at hmod
  injection hmod with hm1 hm2
  subst hm1; subst hm2
  have cD := fun h hb => w_has Adr.dataW r (h := h) (i := 1) hb
  have l1 := Adr.has_len Adr.dataW r
  obtain ⟨⟨dt, r1⟩, hr1⟩ : ∃ q, Adr.hasP Adr.dataW r = q := ⟨_, rfl⟩
  rw [hr1] at cD l1 hF
  dsimp only at cD l1 hF
  have cT := fun h hb => w_word r1 (by omega) (h := h) (i := 1) hb
  have l2 := Adr.word_len r1
  obtain ⟨⟨ty, r2⟩, hr2⟩ : ∃ q, Adr.wordP r1 = q := ⟨_, rfl⟩
  rw [hr2] at cT l2 hF
  dsimp only at cT l2 hF
  have cK := fun h hb => w_skip [46] r2 (h := h) (i := 1) hb
  have l3 := Adr.skip_len [46] r2
  obtain ⟨r3, hr3⟩ : ∃ q, Adr.skipP [46] r2 = q := ⟨_, rfl⟩
  rw [hr3] at cK l3 hF
  have cN := fun h hb => w_word r3 (by omega) (h := h) (i := 1) hb
  have l4 := Adr.word_len r3
  obtain ⟨⟨na, r4⟩, hr4⟩ : ∃ q, Adr.wordP r3 = q := ⟨_, rfl⟩
  rw [hr4] at cN l4 hF
  dsimp only at cN l4 hF
  have cY := fun h hb => w_key r4 (by omega) (h := h) (i := 1) hb
  have l5 := Adr.key_len r4
  obtain ⟨⟨⟨kd, kn, ks⟩, ⟨re, ba⟩⟩, hr5⟩ : ∃ q, Adr.keyP r4 = q := ⟨_, rfl⟩
  rw [hr5] at cY l5 hF
  dsimp only [Adr.K.A] at cY l5 hF
  have ck := fun h => a_kind ty (by omega) h
  unfold adB at cD cT cK cN cY
  have hdw : Adr.dataW = [100, 97, 116, 97, 46] := rfl
  rw [hdw] at cD
  have start : ∀ {G : Prop}, (r.bad = true → G) → (r.bad = false → Adr.begins r.rest Adr.modW = false → G) → G := fun p q => by
   cases hb : r.bad
   ·refine q hb ?_
    cases hB : Adr.begins r.rest Adr.modW
    ·rfl
    ·exact absurd ⟨hb, hB⟩ hgo
   ·exact p hb
  have lx := Gs.le gX
  refine start (fun hb => ?_) (fun hb hB => ?_)
  ·rw [hb] at cD ⊢
   (refine AX.run0 (And.intro t2 (And.intro t3 (And.intro t4 t5))) ?_)
   refine use (cD _ rfl) ?_
   (refine AX.run0 (And.intro t2 (And.intro t3 (And.intro t4 t5))) ?_)
   refine use (cT _ rfl) ?_
   (refine AX.run0 (And.intro t2 (And.intro t3 (And.intro t4 t5))) ?_)
   refine use (cK _ rfl) ?_
   (refine AX.run0 (And.intro t2 (And.intro t3 (And.intro t4 t5))) ?_)
   refine use (cN _ rfl) ?_
   (refine AX.run0 (And.intro t2 (And.intro t3 (And.intro t4 t5))) ?_)
   refine use (cY _ rfl) ?_
   have zle : leL [.sl 0 .nil [], .bool false, .str [], .str [], .int .i64 0, .int .i64 0, .str []] Adr.Ad.zero.cells := ⟨⟨rfl, .inr rfl, .inl rfl⟩, rfl, rfl, rfl, rfl, rfl, rfl, trivial⟩
   cases ba
   rotate_left
   ·rw [if_pos (.inl rfl)] at hF
    subst hF
    (refine AX.run0 (And.intro t2 (And.intro t3 (And.intro t4 t5))) ?_)
    exact ⟨.tup [.agg Adr.Ad.zero.cells, .int .i64 2], ⟨zle, rfl, trivial⟩, rfl⟩
   cases hre : re != []
   rotate_left
   ·rw [if_pos (.inr (.inl (bne_iff_ne.1 hre)))] at hF
    subst hF
    (refine AX.run0 (And.intro t2 (And.intro t3 (And.intro t4 (And.intro t5 hre)))) ?_)
    exact ⟨.tup [.agg Adr.Ad.zero.cells, .int .i64 2], ⟨zle, rfl, trivial⟩, rfl⟩
   (refine AX.run0 (And.intro t2 (And.intro t3 (And.intro t4 (And.intro t5 hre)))) ?_)
   refine use (ck _) ?_
   cases hkb : Adr.kindB ty
   ·rw [if_pos (.inr (.inr hkb))] at hF
    subst hF
    (refine AX.run0 (And.intro t2 (And.intro t3 (And.intro t4 t5))) ?_)
    exact ⟨.tup [.agg Adr.Ad.zero.cells, .int .i64 2], ⟨zle, rfl, trivial⟩, rfl⟩
   rw [if_neg (by rintro (h | h | h); cases h; rw [bne_eq_false_iff_eq] at hre; exact h hre; rw [hkb] at h; cases h)] at hF
   have lm : (l.map Adr.Step.cells).length = l.length := List.length_map ..
   by_cases hlen : (l.length : Int) > 16
   ·rw [if_pos (by omega)] at hF
    subst hF
    (refine AX.run0 (And.intro t2 (And.intro t3 (And.intro t4 (And.intro t5 (And.intro lm hlen))))) ?_)
    exact ⟨.tup [.agg Adr.Ad.zero.cells, .int .i64 4], ⟨zle, rfl, trivial⟩, rfl⟩
   ·rw [if_neg (by omega)] at hF
    subst hF
    (refine AX.run0 (And.intro t2 (And.intro t3 (And.intro t4 (And.intro t5 (And.intro lm hlen))))) ?_)
    exact ⟨.tup [.agg (Adr.Ad.cells ⟨l, dt, ty, na, ⟨kd, kn, ks⟩⟩), .int .i64 0], ⟨⟨lx, rfl, rfl, rfl, rfl, rfl, rfl, trivial⟩, rfl, trivial⟩, rfl⟩
  ·rw [hb] at cD ⊢
   have cH := fun h hb => w_has Adr.modW r (h := h) (i := 1) hb
   have hh1 : Adr.hasP Adr.modW r = (false, r) := by unfold Adr.hasP; rw [hB, if_neg (by decide)]
   have hmw : Adr.modW = [109, 111, 100, 117, 108, 101, 46] := rfl
   rw [hh1, hmw] at cH
   unfold adB at cH
   rw [hb] at cH
   (refine AX.run0 (And.intro t2 (And.intro t3 (And.intro t4 t5))) ?_)
   refine use (cH _ rfl) ?_
   (refine AX.run0 (And.intro t2 (And.intro t3 (And.intro t4 t5))) ?_)
   refine use (cD _ rfl) ?_
   (refine AX.run0 (And.intro t2 (And.intro t3 (And.intro t4 t5))) ?_)
   refine use (cT _ rfl) ?_
   (refine AX.run0 (And.intro t2 (And.intro t3 (And.intro t4 t5))) ?_)
   refine use (cK _ rfl) ?_
   (refine AX.run0 (And.intro t2 (And.intro t3 (And.intro t4 t5))) ?_)
   refine use (cN _ rfl) ?_
   (refine AX.run0 (And.intro t2 (And.intro t3 (And.intro t4 t5))) ?_)
   refine use (cY _ rfl) ?_
   have zle : leL [.sl 0 .nil [], .bool false, .str [], .str [], .int .i64 0, .int .i64 0, .str []] Adr.Ad.zero.cells := ⟨⟨rfl, .inr rfl, .inl rfl⟩, rfl, rfl, rfl, rfl, rfl, rfl, trivial⟩
   cases ba
   rotate_left
   ·rw [if_pos (.inl rfl)] at hF
    subst hF
    (refine AX.run0 (And.intro t2 (And.intro t3 (And.intro t4 t5))) ?_)
    exact ⟨.tup [.agg Adr.Ad.zero.cells, .int .i64 2], ⟨zle, rfl, trivial⟩, rfl⟩
   cases hre : re != []
   rotate_left
   ·rw [if_pos (.inr (.inl (bne_iff_ne.1 hre)))] at hF
    subst hF
    (refine AX.run0 (And.intro t2 (And.intro t3 (And.intro t4 (And.intro t5 hre)))) ?_)
    exact ⟨.tup [.agg Adr.Ad.zero.cells, .int .i64 2], ⟨zle, rfl, trivial⟩, rfl⟩
   (refine AX.run0 (And.intro t2 (And.intro t3 (And.intro t4 (And.intro t5 hre)))) ?_)
   refine use (ck _) ?_
   cases hkb : Adr.kindB ty
   ·rw [if_pos (.inr (.inr hkb))] at hF
    subst hF
    (refine AX.run0 (And.intro t2 (And.intro t3 (And.intro t4 t5))) ?_)
    exact ⟨.tup [.agg Adr.Ad.zero.cells, .int .i64 2], ⟨zle, rfl, trivial⟩, rfl⟩
   rw [if_neg (by rintro (h | h | h); cases h; rw [bne_eq_false_iff_eq] at hre; exact h hre; rw [hkb] at h; cases h)] at hF
   have lm : (l.map Adr.Step.cells).length = l.length := List.length_map ..
   by_cases hlen : (l.length : Int) > 16
   ·rw [if_pos (by omega)] at hF
    subst hF
    (refine AX.run0 (And.intro t2 (And.intro t3 (And.intro t4 (And.intro t5 (And.intro lm hlen))))) ?_)
    exact ⟨.tup [.agg Adr.Ad.zero.cells, .int .i64 4], ⟨zle, rfl, trivial⟩, rfl⟩
   ·rw [if_neg (by omega)] at hF
    subst hF
    (refine AX.run0 (And.intro t2 (And.intro t3 (And.intro t4 (And.intro t5 (And.intro lm hlen))))) ?_)
    exact ⟨.tup [.agg (Adr.Ad.cells ⟨l, dt, ty, na, ⟨kd, kn, ks⟩⟩), .int .i64 0], ⟨⟨lx, rfl, rfl, rfl, rfl, rfl, rfl, trivial⟩, rfl, trivial⟩, rfl⟩
end AX
end Go.Proofs.YtnjkemakcejceaaGreatDoor

namespace Go.Proofs.YtnjkemakcejceaaGreatDoor
open Go.RowKit
namespace AX
section
variable {P : Program} {G : World → Prop} {C : Ctx} {h : Hp}
def Fz1 (h : Hp) (x y : A) : Prop := (x = y ∧ x.data = true) ∨ ∃ i W T rows, x = .bs i W rows.length ∧ h.b[i]? = some (.row T rows.flatten) ∧ y = .sl W .no rows ∧ (∀ r ∈ rows, r.length = W) ∧ rows.flatten.all A.data = true
def FzL (h : Hp) : List A → List A → Prop
 | [], [] => True
 | x :: l, y :: m => Fz1 h x y ∧ FzL h l m
 | _, _ => False
theorem FzL.data {h : Hp} : ∀ {l m : List A}, FzL h l m → m.all A.data = true
 | [], [], _ => rfl
 | x :: l, y :: m, hf => by
  rw [List.all_cons, Bool.and_eq_true]
  refine ⟨?_, FzL.data hf.2⟩
  rcases hf.1 with ⟨rfl, hd⟩ | ⟨i, W, T, rows, _, _, rfl, _, _⟩
  ·exact hd
  ·rfl
 | [], _ :: _, hf => hf.elim
 | _ :: _, [], hf => hf.elim
theorem pcallz {f : FuncId} {args : List A} {ys : List A} (hc : ACall P G f args ⟨[], []⟩ fun v h' => ∃ xs, v = .agg xs ∧ FzL h' xs ys) (ha : args.all A.pure = true) (h : Hp) : ACall P G f args h fun v h' => v = .agg ys ∧ h' = h := by
 intro C cs hI hr
 have hid : Inv G C.hid ⟨[], []⟩ := by
  refine ⟨rfl, fun i b hb => by simp at hb, fun i hi => by simp [Ctx.hid] at hi, fun g i hg => by simp [Ctx.hid] at hg, fun g j hs => ?_, fun t E W m ht => by simp [Ctx.hid] at ht, fun t t' ht => by simp [Ctx.hid] at ht, fun t => by simp [Ctx.hid], hI.base, hI.glob⟩
  exact ⟨(hI.prot g j hs).1, rfl, fun t E W m ht => by simp [Ctx.hid] at ht⟩
 refine (hc C.hid cs hid (RepL.pures (C := C) (C' := C.hid) ⟨fun g j hs => ⟨hs, rfl⟩⟩ args cs ha hr)).mono ?_
 rintro e w' ⟨C1, h1, v, cv, rfl, rfl, I1, S1, r1, xs, rfl, hf⟩
 have hblk : ∀ g, g < C.w.heap.size → C1.w.heap[g]? = C.w.heap[g]? := fun g hg => S1.frame g hg rfl fun t ht => by simp [Ctx.hid] at ht
 have hnew : ∀ g i, C1.own g = some i → C.w.heap.size ≤ g := fun g i hg => by
  rcases Nat.lt_or_ge g C.w.heap.size with hlt | hge
  ·have := S1.own g hlt
   rw [hg] at this
   simp [Ctx.hid] at this
  ·exact hge
 let C2 : Ctx := { C with w := C1.w, S := fun g j => C1.S g j ∨ ((C1.own g).isSome = true), own := fun g => if g < C.w.heap.size then C.own g else none }
 have hsz : C.w.heap.size ≤ C1.w.heap.size := S1.size
 have he : Ext C C2 := by
  refine ⟨fun g j hs => ?_, Nat.le_refl _, fun _ _ => rfl, fun t E W m ht => ?_⟩
  ·obtain ⟨k1, k2⟩ := S1.ext.cells g j hs
   exact ⟨.inl k1, k2⟩
  ·obtain ⟨_, _, cap, h2, _⟩ := hI.rows t E W m ht
   exact ⟨m, ht, .inr ⟨rfl, rfl, fun cap hc => hc.same (hblk _ h2.lt)⟩⟩
 have hown : ∀ g i, C2.own g = some i ↔ C.own g = some i := fun g i => by
  show (if g < C.w.heap.size then C.own g else none) = some i ↔ _
  split
  ·exact Iff.rfl
  ·next hg => exact ⟨fun e => (by cases e), fun e => absurd (hI.ownlt g i e).2.1 hg⟩
 have hprot : ∀ g j, C2.S g j → C.S g j ∨ C.w.heap.size ≤ g := fun g j hs => by
  rcases hs with hs | hs
  ·rcases S1.prot g j hs with h2 | h2 | ⟨t, h2, _⟩
   ·exact .inl h2
   ·exact .inr h2
   ·simp [Ctx.hid] at h2
  ·obtain ⟨i, hi⟩ := Option.isSome_iff_exists.1 hs
   exact .inr (hnew g i hi)
 have hSlt : ∀ g j, C2.S g j → g < C1.w.heap.size := fun g j hs => by
  rcases hs with hs | hs
  ·exact (I1.prot g j hs).1
  ·obtain ⟨i, hi⟩ := Option.isSome_iff_exists.1 hs
   exact (I1.ownlt g i hi).2.1
 have hsame : Same C1 C2 := ⟨fun g j hs => ⟨.inl hs, rfl⟩⟩
 have frz : ∀ (xs ys : List A) (vs : List Value), FzL h1 xs ys → RepL C1 xs vs → RepL C2 ys vs := by
  intro xs
  induction xs with
  | nil =>
   intro ys vs hf hr
   cases ys with
   | nil => exact hr
   | cons y ys => exact hf.elim
  | cons x xs ih =>
   intro ys vs hf hr
   cases ys with
   | nil => exact hf.elim
   | cons y ys =>
    obtain ⟨c, cs', rfl, k1, k2⟩ := repL_cons.1 hr
    refine repL_cons.2 ⟨c, cs', rfl, ?_, ih ys cs' hf.2 k2⟩
    rcases hf.1 with ⟨rfl, hd⟩ | ⟨i, W, T, rows, rfl, hb, rfl, hW, hd⟩
    ·exact Rep.same hsame _ _ hd k1
    ·obtain ⟨cap, rfl, hcap, hi⟩ := rep_bs.1 k1
     obtain ⟨ds, rest, q1, q2⟩ := I1.box i _ hb
     have hsd : (C1.own (C1.κ i)).isSome = true := by rw [I1.ownk i hi]; rfl
     have hdd : ∀ (l : List A) (ds : List Value), l.all A.data = true → RepL C1 l ds → RepL C2 l ds := fun l ds hd hr => RepL.same hsame l ds hd hr
     refine rep_sl.2 ⟨_, cap, rfl, hcap, repRows_of rows ds 0 hW hd (hdd _ _ hd q2) (fun j _ => .inr hsd) (fun j u hu => ?_), trivial⟩
     have q1' : C2.w.heap[C1.κ i]? = some (.cells (ds ++ rest).toArray T (0, 0)) := q1
     rw [cell_of_row _ _ _ _ _ _ q1']
     have hj : j < ds.length := (List.getElem?_eq_some_iff.1 hu).1
     simp only [List.getElem?_toArray]
     rw [show 0 + 0 * W + j = j by omega, List.getElem?_append_left hj]
     exact hu
 refine ⟨C2, h, .agg ys, cv, rfl, rfl, ⟨hI.nb, fun i b hib => ?_, fun i hi => (hown _ _).2 (hI.ownk i hi), fun g i hg => ?_, fun g j hs => ?_, fun t E W m ht => ?_, hI.inj, hI.toks, Nat.le_trans hI.base hsz, fun w2 hw => ?_⟩, ⟨he, S1.os, S1.tape, S1.output, hsz, rfl, fun g hg _ _ => hblk g hg, fun g hg => ?_, fun g j hs => ?_, fun t ht => .inr ⟨ht, rfl⟩⟩, ?_, rfl, rfl⟩
 ·have hi : i < C.nb := by rw [← hI.nb]; exact (List.getElem?_eq_some_iff.1 hib).1
  exact (hI.box i b hib).ext he hi (hI.ownk i hi) (fun g j hg => (hI.ownlt g j hg).2.1) (fun g hg => hblk g (hI.ownlt g i hg).2.1) (fun g => hown g i) hsz
 ·obtain ⟨k1, k2, k3⟩ := hI.ownlt g i ((hown g i).1 hg)
  exact ⟨k1, Nat.lt_of_lt_of_le k2 hsz, k3⟩
 ·have hlt := hSlt g j hs
  rcases hprot g j hs with h2 | h2
  ·obtain ⟨k1, k2, k3⟩ := hI.prot g j h2
   exact ⟨hlt, by show (if g < C.w.heap.size then C.own g else none) = none; rw [if_pos k1, k2], k3⟩
  ·refine ⟨hlt, by show (if g < C.w.heap.size then C.own g else none) = none; rw [if_neg (by omega)], fun t E W m ht e => ?_⟩
   obtain ⟨_, _, cap, k1, _⟩ := hI.rows t E W m ht
   have := k1.lt
   have e' : C.τ t = g := e
   omega
 ·obtain ⟨k1, k2, cap, k3, k4⟩ := hI.rows t E W m ht
  exact ⟨by show (if C.τ t < C.w.heap.size then C.own (C.τ t) else none) = none; rw [if_pos k3.lt, k1], k2, cap, k3.same (hblk _ k3.lt), k4⟩
 ·exact hI.glob w2 fun g hg => (hw g hg).trans (hblk g (Nat.lt_of_lt_of_le hg hI.base))
 ·show (if g < C.w.heap.size then C.own g else none) = C.own g
  rw [if_pos hg]
 ·rcases hprot g j hs with h2 | h2
  ·exact .inl h2
  ·exact .inr (.inl h2)
 ·obtain ⟨vs, rfl, hl⟩ := rep_agg.1 r1
  exact rep_agg.2 ⟨vs, rfl, frz xs ys vs hf hl⟩
end
end AX
end Go.Proofs.YtnjkemakcejceaaGreatDoor

namespace Go.Proofs.YtnjkemakcejceaaGreatDoor
open Go.RowKit
set_option maxHeartbeats 2000000 in
set_option maxRecDepth 100000 in
theorem clone_steps (b off n c : Nat) (news : List Value) (w : World) (hl : news.length = n * 4) (hn : 0 < n) (hbig : n * 48 ≤ 140737488355328) (hmax : n ≤ maxLen) (hc : ∀ j v, news[j]? = some v → w.cell? ((⟨b, off, none⟩ : Addr).add j) = some v) (h1 : ∀ u ∈ news, u.oneCell' = true) :
  Calls Tryz.prog 185 #[.slice (some ⟨b, off, none⟩) n c] w fun e w' => ∃ v', e = .returned v' ∧ w'.ownsRow w.heap.size 175 4 v' n news ∧ Below w.heap.size w w' := by
 obtain ⟨i0, hi, hz0, hz1, hz2⟩ := info_parts (show (Tryz.prog.info? 175).map (fun i => (i.zero, i.size, i.bytes)) = some (some (.agg #[.string ⟨#[]⟩, .int .i64 0, .int .i64 0, .string ⟨#[]⟩]), 4, 48) by kernel_rfl)
 have q22 : ∀ (w : World) (a : Option Addr) (n c n' c' : Nat), (binOp .eql 128 (.slice a n c) (.slice none n' c')).run Tryz.prog w = .ok (.bool a.isNone) w := fun w a n c n' c' => Lib.run_eql_slice_nil w _ _ a n c n' c' Tryz.underlying128
 have u22 : ∀ w, Sem.run Tryz.prog (underlying 128) w = .ok (TypeDesc.slice 175) w := run_underlying Tryz.underlying128
 have HC := kept hc
 have H1 := kept h1
 clear hc h1
 go_enter Tryz.func185, Tryz.ntmps185
 go_wp2_with (at_builtin; refine wpList_append_own _ rfl _ _ 128 rfl w.heap.size 175 i0 (.agg #[.string ⟨#[]⟩, .int .i64 0, .int .i64 0, .string ⟨#[]⟩]) 4 48 Tryz.underlying128 hi hz0 hz1 hz2 rfl (by decide) _ _ _ rfl (World.ownsRow_made w #[] 0 (Nat.le_refl _) (Nat.zero_le _) rfl) ⟨b, off, none⟩ n c news rfl ?qc1 ?qc2 ?qc3 ?qc4 ?qc5 ?qc6 ?_)
 case qc1 => exact hl
 case qc2 =>
  intro j u hj
  have := HC.out j u hj
  rw [Addr.add_lit] at this ⊢
  exact Lib.cell?_alloc_some _ this
 case qc3 => exact H1.out
 case qc4 => omega
 case qc5 => omega
 case qc6 => simp
 intro v' w1 hown hgrow hnil
 have Hb := kept (((Below.refl _ w).alloc (Nat.le_refl _) (.cells #[] 175)).grown hgrow (by simp) (by intro k hk; simp [Value.ownBlock] at hk; omega))
 have Ho := kept (show w1.ownsRow w.heap.size 175 4 v' n news by simpa using hown)
 clear hown hgrow hnil HC H1
 go_wp2
 go_ret
 exact ⟨v', rfl, Ho.out, Hb.out⟩
set_option maxHeartbeats 1000000 in
theorem clone_steps0 (a : Option Addr) (c : Nat) (w : World) :
  Calls Tryz.prog 185 #[.slice a 0 c] w fun e w' => (∃ a' c', e = .returned (.slice a' 0 c')) ∧ Below w.heap.size w w' := by
 have q22 : ∀ (w : World) (a : Option Addr) (n c n' c' : Nat), (binOp .eql 128 (.slice a n c) (.slice none n' c')).run Tryz.prog w = .ok (.bool a.isNone) w := fun w a n c n' c' => Lib.run_eql_slice_nil w _ _ a n c n' c' Tryz.underlying128
 have u22 : ∀ w, Sem.run Tryz.prog (underlying 128) w = .ok (TypeDesc.slice 175) w := run_underlying Tryz.underlying128
 cases a with
 | none =>
  go_enter Tryz.func185, Tryz.ntmps185
  go_wp2
  go_ret
  exact ⟨⟨_, _, rfl⟩, Below.refl _ _⟩
 | some ad =>
  obtain ⟨i0, hi, hz0, hz1, hz2⟩ := info_parts (show (Tryz.prog.info? 175).map (fun i => (i.zero, i.size, i.bytes)) = some (some (.agg #[.string ⟨#[]⟩, .int .i64 0, .int .i64 0, .string ⟨#[]⟩]), 4, 48) by kernel_rfl)
  go_enter Tryz.func185, Tryz.ntmps185
  go_wp2_with (at_builtin; refine wpList_append_own _ rfl _ _ 128 rfl w.heap.size 175 i0 (.agg #[.string ⟨#[]⟩, .int .i64 0, .int .i64 0, .string ⟨#[]⟩]) 4 48 Tryz.underlying128 hi hz0 hz1 hz2 rfl (by decide) _ _ _ rfl (World.ownsRow_made w #[] 0 (Nat.le_refl _) (Nat.zero_le _) rfl) ad 0 c [] rfl rfl (by intro j u hj; simp at hj) (by intro u hu; cases hu) (by unfold maxLen; omega) (by omega) (by simp) ?_)
  intro v' w1 hown hgrow hnil
  have Hb := kept (((Below.refl _ w).alloc (Nat.le_refl _) (.cells #[] 175)).grown hgrow (by simp) (by intro k hk; simp [Value.ownBlock] at hk; omega))
  have Hv : ∃ a' c', v' = .slice a' 0 c' := by
   rcases hown.2 with ⟨rfl, _⟩ | ⟨g, cap, cur, rfl, _⟩
   ·exact ⟨_, _, rfl⟩
   ·exact ⟨_, _, rfl⟩
  obtain ⟨a', c', rfl⟩ := Hv
  clear hown hgrow hnil
  go_wp2
  go_ret
  exact ⟨⟨_, _, rfl⟩, Hb.out⟩
namespace AX
theorem a_clone_steps0 (W0 : Nat) (o : Own) (h : Hp) : ACall Tryz.prog GT 185 [.sl W0 o []] h fun v h' => v = .sl 4 .no [] ∧ h' = h := by
 intro C es hI ha
 obtain ⟨c, es', rfl, h1, h2⟩ := repL_cons.1 ha
 rw [repL_nil] at h2; subst h2
 obtain ⟨a, cap, rfl, _, _, _⟩ := rep_sl.1 h1
 refine (clone_steps0 a cap C.w).mono ?_
 rintro e w' ⟨⟨a', c', rfl⟩, hb⟩
 obtain ⟨i1, s1⟩ := inv_below hI hb
 exact ⟨C.at w', h, .sl 4 .no [], _, rfl, rfl, i1, s1, rep_sl.2 ⟨a', c', rfl, Nat.zero_le _, by unfold RepRows; trivial, trivial⟩, rfl, rfl⟩
theorem a_clone_steps (o : Own) (rows : List (List A)) (h0 : rows ≠ []) (hbig : rows.length * 48 ≤ 140737488355328) (hmax : rows.length ≤ maxLen) (h : Hp) :
  ACall Tryz.prog GT 185 [.sl 4 o rows] h fun v h' => v = .bs h.b.length 4 rows.length ∧ h' = ⟨h.b ++ [.row 175 rows.flatten], h.t⟩ := by
 intro C es hI ha
 obtain ⟨c, es', rfl, h1, h2⟩ := repL_cons.1 ha
 rw [repL_nil] at h2; subst h2
 have hpos : 0 < rows.length := List.length_pos_iff.2 h0
 obtain ⟨g, off, cap, cs, rfl, k1, k2, k3, k4, k5⟩ := sl_open h1 hpos
 refine (clone_steps g off rows.length cap cs C.w k2 hpos hbig hmax k5 (repL_one k1 (data_one k3))).mono ?_
 rintro e w' ⟨v', rfl, hown, hb⟩
 rcases hown.2 with ⟨_, hz⟩ | ⟨g', cap', cur, rfl, hg, hh, hcap, _, hcs, htake⟩
 ·omega
 ·have hcur : cur = (cs ++ cur.toList.drop (rows.length * 4)).toArray := by
   apply Array.toList_inj.1
   rw [← htake]
   simp
  rw [hcur] at hh
  obtain ⟨C', m1, m2, m3, m4, m5⟩ := new_row hI hb hg hh k1
  exact ⟨C', _, .bs h.b.length 4 rows.length, _, rfl, m1, m2, m3, rep_bs.2 ⟨cap', by rw [m4], hcap, m5⟩, rfl, rfl⟩
end AX
set_option maxHeartbeats 4000000
namespace AX
theorem setCells_eq : ∀ (xs l : List A) (off : Nat), off + xs.length ≤ l.length → setCells l off xs = l.take off ++ xs ++ l.drop (off + xs.length) := by
 intro xs
 induction xs with
 | nil => intro l off _; simp [setCells]
 | cons x xs ih =>
  intro l off hlt
  rw [List.length_cons] at hlt
  rw [setCells, ih _ _ (by simp; omega), List.take_add_one, List.getElem?_set_self (by omega), List.take_set_of_le (Nat.le_refl _), List.drop_set_of_lt (by omega)]
  simp [show off + 1 + xs.length = off + (xs.length + 1) by omega]
def bareS (s : Adr.Step) : Adr.Step := ⟨s.name, Adr.K.none⟩
def barL (mods : List Adr.Step) (j : Nat) : List A := (((mods.take j).map bareS).map Adr.Step.cells).flatten ++ ((mods.drop j).map Adr.Step.cells).flatten
theorem cells_len (l : List Adr.Step) : ((l.map Adr.Step.cells).flatten).length = l.length * 4 := by
 induction l with
 | nil => rfl
 | cons x l ih => rw [List.map_cons, List.flatten_cons, List.length_append, ih]; simp [Adr.Step.cells]; omega
theorem barL_len (mods : List Adr.Step) (j : Nat) (hj : j ≤ mods.length) : (barL mods j).length = mods.length * 4 := by
 unfold barL
 rw [List.length_append, cells_len, cells_len, List.length_map, List.length_take, List.length_drop, ← Nat.add_mul]
 congr 1; omega
theorem barL_set (mods : List Adr.Step) (j : Nat) (hj : j < mods.length) : setCells (barL mods j) (j * 4 + 1) [.int .i64 0, .int .i64 0, .str []] = barL mods (j + 1) := by
 rw [setCells_eq _ _ _ (by rw [barL_len _ _ (by omega)]; simp; omega)]
 have hp : ((((mods.take j).map bareS).map Adr.Step.cells).flatten).length = j * 4 := by
  rw [cells_len, List.length_map, List.length_take]; congr 1; omega
 have hd : mods.drop j = mods[j] :: mods.drop (j + 1) := List.drop_eq_getElem_cons hj
 have ht : mods.take (j + 1) = mods.take j ++ [mods[j]] := by rw [List.take_succ_eq_append_getElem hj]
 unfold barL
 rw [hd, ht, List.map_append, List.map_append, List.flatten_append]
 generalize (((mods.take j).map bareS).map Adr.Step.cells).flatten = p at hp
 obtain ⟨nm, ⟨kd, kn, ks⟩⟩ := mods[j]
 simp only [List.map_cons, List.flatten_cons, Adr.Step.cells, List.cons_append, List.nil_append, List.length_cons, List.length_nil]
 generalize ((mods.drop (j + 1)).map Adr.Step.cells).flatten = q
 rw [List.take_append, List.take_of_length_le (by omega), List.drop_append, List.drop_of_length_le (by omega), hp]
 rw [show j * 4 + 1 - j * 4 = 1 by omega, show j * 4 + 1 + (0 + 1 + 1 + 1) - j * 4 = 4 by omega]
 simp [bareS, Adr.K.none, Adr.Step.cells]
def c_astatic : AX.AFn := ⟨26, .seq (.reg false [⟨some 1, .box 133 (.t 0), none, []⟩, ⟨some 2, .alloc 133 [.sl 0 .nil [], .bool false, .str [], .str [], .int .i64 0, .int .i64 0, .str []], none, []⟩]) (.seq (.reg false [⟨some 5, .load true 7 (.t 1), none, []⟩, ⟨some 3, .alloc 133 [.sl 0 .nil [], .bool false, .str [], .str [], .int .i64 0, .int .i64 0, .str []], none, []⟩, ⟨none, .store 7 (.t 3) (.t 5), none, []⟩]) (.seq (.reg false [⟨some 6, .build [.int .i64 0, .int .i64 0, .str []] [], none, []⟩, ⟨some 7, .faddr 4 (.t 3), none, []⟩, ⟨none, .store 3 (.t 7) (.t 6), none, []⟩]) (.seq (.reg false [⟨some 8, .faddr 0 (.t 1), none, []⟩, ⟨some 9, .load false 1 (.t 8), none, []⟩, ⟨some 10, .call 185 [.t 9], none, []⟩, ⟨some 11, .faddr 0 (.t 3), none, []⟩, ⟨none, .store 1 (.t 11) (.t 10), none, []⟩]) (.seq (.seq (.reg false [⟨some 12, .faddr 0 (.t 3), none, []⟩, ⟨some 13, .load false 1 (.t 12), none, []⟩, ⟨some 14, .len false (.t 13), none, []⟩, ⟨some 15, .mv (.c (.int .i64 0)), none, []⟩]) (.block 0 (.loop (.seq (.reg false [⟨some 16, .bin .lss (.t 15) (.t 14), none, []⟩]) (.seq (.cond (.t 16) (.skip) (.exit 0)) (.seq (.block 1 (.seq (.reg false [⟨some 17, .mv (.t 15), none, []⟩, ⟨some 4, .mv (.t 17), none, []⟩]) (.reg false [⟨some 18, .faddr 0 (.t 3), none, []⟩, ⟨some 19, .load false 1 (.t 18), none, []⟩, ⟨some 20, .mv (.t 4), none, []⟩, ⟨some 21, .build [.int .i64 0, .int .i64 0, .str []] [], none, []⟩, ⟨some 22, .iaddr 4 (.t 19) (.t 20), none, []⟩, ⟨some 23, .faddr 1 (.t 22), none, []⟩, ⟨none, .store 3 (.t 23) (.t 21), none, []⟩]))) (.reg false [⟨some 24, .bin .add (.t 15) (.c (.int .i64 1)), none, []⟩, ⟨some 15, .mv (.t 24), none, []⟩]))))))) (.seq (.reg false [⟨some 25, .load true 7 (.t 3), none, []⟩, ⟨none, .store 7 (.t 2) (.t 25), none, []⟩]) (.ret)))))), [.c 2 true 7]⟩
theorem h_astatic : AX.compFn Tryz.prog 156 = some c_astatic := by kernel_rfl
theorem a_static0 (a : Adr.Ad) (hn : a.mods.length ≤ 3000000) (h : Hp) : ACall Tryz.prog GT 156 [.agg a.cells] h fun v h' => v = .agg (Adr.bare a).cells ∧ h' = h := by
 obtain ⟨mods, data, ty, nm, ⟨kk, kn, ks⟩⟩ := a
 dsimp only at hn
 have hbc : (Adr.bare ⟨mods, data, ty, nm, ⟨kk, kn, ks⟩⟩).cells = [.sl 4 .no ((mods.map fun s => (⟨s.name, Adr.K.none⟩ : Adr.Step)).map Adr.Step.cells), .bool data, .str ty, .str nm, .int .i64 0, .int .i64 0, .str []] := rfl
 rw [hbc]
 refine pcallz ?_ (by simp [A.pure, A.data, Adr.Ad.cells]) h
 refine acall_of mixedT h_astatic (by simp [c_astatic]) ?_
 dsimp only [c_astatic, Adr.Ad.cells]
 by_cases hm : mods = []
 ·subst hm
  have hc := fun h => a_clone_steps0 4 .no h
  have hz : ¬ (0 : Int) < ((0 : Nat) : Int) := by decide
  simp only [List.map_nil]
  (refine AX.run0 True.intro ?_)
  refine use (hc _) ?_
  (refine AX.run0 True.intro ?_)
  refine go_once ?_
  (refine AX.run0 hz ?_)
  exact ⟨_, le_refl _, _, rfl, ⟨.inl ⟨rfl, rfl⟩, .inl ⟨rfl, rfl⟩, .inl ⟨rfl, rfl⟩, .inl ⟨rfl, rfl⟩, .inl ⟨rfl, rfl⟩, .inl ⟨rfl, rfl⟩, .inl ⟨rfl, rfl⟩, trivial⟩⟩
 ·have hrne : mods.map Adr.Step.cells ≠ [] := by simpa using hm
  have lm : (mods.map Adr.Step.cells).length = mods.length := List.length_map ..
  have hc := fun h => a_clone_steps .no (mods.map Adr.Step.cells) hrne (by rw [lm]; omega) (by rw [lm]; unfold maxLen; omega) h
  rw [lm] at hc
  (refine AX.run0 True.intro ?_)
  refine use (hc _) ?_
  (refine AX.run0 True.intro ?_)
  have hL0 : (mods.map Adr.Step.cells).flatten = barL mods 0 := by unfold barL; simp
  rw [hL0]
  refine awp_loop (fun mm ts h => ∃ (j : Nat) (B0 : Blk), mm = mods.length - j ∧ j ≤ mods.length ∧ h = ⟨[B0, .cells 133 [.sl 0 .nil [], .bool false, .str [], .str [], .int .i64 0, .int .i64 0, .str []], .cells 133 [.bs 3 4 mods.length, .bool data, .str ty, .str nm, .int .i64 0, .int .i64 0, .str []], .row 175 (barL mods j)], []⟩ ∧ ts 2 = .ptr 1 0 ∧ ts 3 = .ptr 2 0 ∧ ts 14 = .int .i64 (mods.length : Nat) ∧ ts 15 = .int .i64 (j : Nat)) mods.length ?_ ?_
  ·exact ⟨0, _, by omega, by omega, rfl, by (exact AX.ev0 True.intro), by (exact AX.ev0 True.intro), by (exact AX.ev0 True.intro), by (exact AX.inv0 True.intro)⟩
  rintro mm ts h ⟨j, B0, rfl, hjc, rfl, t2, t3, t14, t15⟩
  by_cases hj : j < mods.length
  ·have hlt : (j : Int) < (mods.length : Int) := by omega
   have hj0 : (0 : Int) ≤ (j : Int) := by omega
   have ei : IntKind.i64.wrap ((j : Int) + 1) = ((j + 1 : Nat) : Int) := by rw [wrap64 (by omega) (by omega)]; omega
   have hset := barL_set mods j hj
   have hln : j * 4 + 1 + 3 ≤ (barL mods j).length := by rw [barL_len _ _ (by omega)]; omega
   simp only [setCells] at hset
   (refine AX.run0 (And.intro t2 (And.intro t3 (And.intro t14 (And.intro t15 (And.intro hlt (And.intro hj0 (And.intro hln (And.intro hset ei)))))))) ?_)
   exact ⟨mods.length - (j + 1), by omega, j + 1, B0, rfl, by omega, rfl, by (exact AX.ev0 t2), by (exact AX.ev0 t3), by (exact AX.ev0 t14), by (exact AX.ev0 ei)⟩
  ·have hlt : ¬ ((j : Int) < (mods.length : Int)) := by omega
   have hje : j = mods.length := by omega
   subst hje
   (refine AX.run0 (And.intro t2 (And.intro t3 (And.intro t14 (And.intro t15 hlt)))) ?_)
   refine ⟨_, le_refl _, _, rfl, ⟨.inr ⟨3, 4, 175, (mods.map bareS).map Adr.Step.cells, by simp, ?_, rfl, ?_, ?_⟩, .inl ⟨rfl, rfl⟩, .inl ⟨rfl, rfl⟩, .inl ⟨rfl, rfl⟩, .inl ⟨rfl, rfl⟩, .inl ⟨rfl, rfl⟩, .inl ⟨rfl, rfl⟩, trivial⟩⟩
   ·show some (Blk.row _ _) = some _
    congr 2
    unfold barL
    simp
   ·intro r hr
    obtain ⟨s, _, rfl⟩ := List.mem_map.1 hr
    rfl
   ·rw [List.all_flatten, List.all_eq_true]
    intro r hr
    obtain ⟨s, _, rfl⟩ := List.mem_map.1 hr
    rfl
end AX
end Go.Proofs.YtnjkemakcejceaaGreatDoor

namespace Go.Proofs.YtnjkemakcejceaaGreatDoor
open Go.RowKit
def BWtr (B b : Nat) (l : List UInt8) (w : World) : Prop :=
 B ≤ b ∧ ∃ p v, (p = .pointer none ∨ p = .pointer (some ⟨b, 0, none⟩)) ∧ w.heap[b]? = some (.cells #[p, v] 140 (0, 0)) ∧ w.ownsRowF B 5 1 v l.length (Lib.byteCells l) ∧ v.ownBlock ≠ some b
def BWtrU (B b : Nat) (l : List UInt8) (w : World) : Prop :=
 B ≤ b ∧ ∃ v, w.heap[b]? = some (.cells #[.pointer (some ⟨b, 0, none⟩), v] 140 (0, 0)) ∧ w.ownsRowF B 5 1 v l.length (Lib.byteCells l) ∧ v.ownBlock ≠ some b
set_option maxHeartbeats 1000000 in
set_option maxRecDepth 100000 in
theorem bwtr_fresh (b : Nat) (w : World) (h0 : w.cell? ⟨b, 0, none⟩ = some (.pointer none)) (hsh : w.shape? b = some (140, 2)) (hfz : w.frozen? ⟨b, 0, none⟩ = false) :
  Calls Tryz.prog 164 #[.pointer (some ⟨b, 0, none⟩)] w fun e w' => e = .returned (.tuple #[]) ∧ w' = w.setCell ⟨b, 0, none⟩ (.pointer (some ⟨b, 0, none⟩)) := by
 obtain ⟨j, hj, hjs⟩ := Option.map_eq_some_iff.1 (show (Tryz.prog.info? 140).map (·.size) = some 2 by kernel_rfl)
 have hlies : liesAt Tryz.prog Tryz.prog.depth 140 (2 / Tryz.prog.cellsOf 140) 0 140 1 = true := by kernel_rfl
 go_enter Tryz.func164, Tryz.ntmps164
 go_wp2
 rw [Lib.run_to_unsafe w ⟨b, 0, none⟩ Tryz.underlying138 Tryz.underlying239 hj (by rw [hjs]; decide) hsh (by show 0 < 2; omega)]
 simp only [Result.andThen]
 rw [Oper.upon_value]
 go_wp2
 rw [run_callFunc_extern Tryz.func197 (by kernel_rfl) (by kernel_rfl) (by kernel_rfl) (e := Extern.AbiNoEscape.same) (by kernel_rfl)]
 rw [Lib.run_noEscape]
 simp only [Result.andThen]
 rw [Oper.upon_value]
 go_wp2
 rw [Lib.run_from_unsafe w ⟨b, 0, none⟩ Tryz.underlying239 Tryz.underlying138 hj hsh hlies]
 simp only [Result.andThen]
 rw [Oper.upon_value]
 go_wp2
 go_end0
 exact ⟨rfl, rfl⟩
theorem cell_row2 {w : World} {b : Nat} {p v : Value} {T : TypeId} (h : w.heap[b]? = some (.cells #[p, v] T (0, 0))) : w.cell? ⟨b, 0, none⟩ = some p ∧ w.cell? ⟨b, 1, none⟩ = some v ∧ (∀ i, w.frozen? ⟨b, i, none⟩ = false) ∧ w.shape? b = some (T, 2) ∧ b < w.heap.size := by
 refine ⟨?_, ?_, fun i => ?_, ?_, (Array.getElem?_eq_some_iff.1 h).1⟩
 ·rw [cell_of_row _ _ _ _ _ _ h]; rfl
 ·rw [cell_of_row _ _ _ _ _ _ h]; rfl
 ·simp [World.frozen?, h]
 ·simp [World.shape?, h]
theorem BWtr.used {B b : Nat} {l : List UInt8} {w : World} {p v : Value} (hB : B ≤ b) (hb : w.heap[b]? = some (.cells #[p, v] 140 (0, 0))) (hown : w.ownsRowF B 5 1 v l.length (Lib.byteCells l)) (hne : v.ownBlock ≠ some b) :
  BWtrU B b l (w.setCell ⟨b, 0, none⟩ (.pointer (some ⟨b, 0, none⟩))) := by
 refine ⟨hB, v, ?_, ?_, hne⟩
 ·simp [World.setCell, Array.getElem?_modify, hb]
 ·exact hown.kept (row := some b) ⟨rfl, rfl, rfl, by simp [World.setCell], fun k _ hk => Below.heap_setCell _ _ _ _ (fun e => hk (by simp [e]))⟩ (Or.inr hne)
def BF (F : Nat → Prop) (b : Nat) (l : List UInt8) (w : World) : Prop :=
 ∃ p v, (p = .pointer none ∨ p = .pointer (some ⟨b, 0, none⟩)) ∧ w.heap[b]? = some (.cells #[p, v] 140 (0, 0)) ∧ w.ownsRowF 0 5 1 v l.length (Lib.byteCells l) ∧ v.ownBlock ≠ some b ∧ F b ∧ ∀ k, v.ownBlock = some k → F k
theorem bf_check {F : Nat → Prop} {b : Nat} {l : List UInt8} {w : World} (h : BF F b l w) :
  Calls Tryz.prog 164 #[.pointer (some ⟨b, 0, none⟩)] w fun e w' => e = .returned (.tuple #[]) ∧ (∃ v, w'.heap[b]? = some (.cells #[.pointer (some ⟨b, 0, none⟩), v] 140 (0, 0)) ∧ w'.ownsRowF 0 5 1 v l.length (Lib.byteCells l) ∧ v.ownBlock ≠ some b ∧ F b ∧ ∀ k, v.ownBlock = some k → F k) ∧ Fr F w w' := by
 obtain ⟨p, v, hp, hb, hown, hne, hF, hFk⟩ := h
 obtain ⟨c0, c1, hf, hsh, hlt⟩ := cell_row2 hb
 rcases hp with rfl | rfl
 ·refine (bwtr_fresh b w c0 hsh (hf 0)).mono ?_
  rintro e w' ⟨rfl, rfl⟩
  obtain ⟨_, v', hb', hown', hne'⟩ := BWtr.used (B := 0) (Nat.zero_le _) hb hown hne
  have hv : v' = v := by
   have := (cell_row2 hb').2.1
   have h2 : (w.setCell ⟨b, 0, none⟩ (.pointer (some ⟨b, 0, none⟩))).heap[b]? = some (.cells #[.pointer (some ⟨b, 0, none⟩), v] 140 (0, 0)) := by simp [World.setCell, Array.getElem?_modify, hb]
   have h3 := (cell_row2 h2).2.1
   rw [h3] at this; injection this with this; exact this.symm
  subst hv
  exact ⟨rfl, ⟨v', hb', hown', hne', hF, hFk⟩, Fr.set w b 0 _ hF⟩
 ·refine (Any.Builder_copyCheck_used Tryz.lays240 Tryz.Builder_X72_240 b w c0).mono ?_
  rintro e w' ⟨rfl, rfl⟩
  exact ⟨rfl, ⟨v, hb, hown, hne, hF, hFk⟩, Fr.refl F _⟩
set_option maxHeartbeats 2000000 in
set_option maxRecDepth 100000 in
theorem bf_write {F : Nat → Prop} {b : Nat} {l : List UInt8} {w : World} (h : BF F b l w) (s : List UInt8) (hlen : l.length + s.length ≤ 1000000000) :
  Calls Tryz.prog 129 #[.pointer (some ⟨b, 0, none⟩), .string ⟨s.toArray⟩] w fun e w' => e = .returned (.tuple #[.int .i64 s.length, .nilIface]) ∧ BF (fun k => F k ∨ w.heap.size ≤ k) b (l ++ s) w' ∧ Fr F w w' := by
 obtain ⟨i0, hi, hz0, hz1, hz2⟩ := info_parts info_byte
 go_enter Tryz.func129, Tryz.ntmps129
 go_wp2_with fail
 (with_reducible refine (bf_check h).mono ?_)
 rintro e w1 ⟨rfl, ⟨v, hbk, hown, hne, hF, hFk⟩, hb1⟩
 obtain ⟨c0, c1, hf, hsh, hlt⟩ := cell_row2 hbk
 go_wp2_with (at_builtin; refine wpList_append_F _ rfl _ _ 44 9 rfl 5 i0 Tryz.underlying44 Tryz.underlying9 hi hz0 hz1 hz2 _ _ _ rfl hown ⟨s.toArray⟩ rfl ?c3 ?c4 ?_)
 case c3 => rw [size_mk]; unfold maxLen; omega
 case c4 => rw [size_mk]; omega
 intro v' w2 hown' hgrow hwhere
 have hb2 : w2.heap[b]? = some (.cells #[.pointer (some ⟨b, 0, none⟩), v] 140 (0, 0)) := (hgrow.block b hlt (fun e => hne e.symm)).trans hbk
 obtain ⟨d0, d1, hf2, _, hlt2⟩ := cell_row2 hb2
 have f1 := hf2 1
 have hown2 : w2.ownsRowF 0 5 1 v' (l ++ s).length (Lib.byteCells (l ++ s)) := by
  have e1 : (⟨s.toArray⟩ : ByteArray).size = s.length := size_mk s
  have e2 : Lib.byteCells l ++ Lib.strCells ⟨s.toArray⟩ = Lib.byteCells (l ++ s) := by unfold Lib.strCells Lib.byteCells; simp
  rw [List.length_append, ← e2, ← e1]; exact hown'
 have hne2 := Lib.ownBlock_neF hown2 hb2 (show 140 ≠ 5 by decide)
 have hwb1 := hb1.size
 have Hfin := kept (show BF (fun k => F k ∨ w.heap.size ≤ k) b (l ++ s) (w2.setCell ⟨b, 1, none⟩ v') from by
  refine ⟨_, v', .inr rfl, ?_, ?_, hne2, .inl hF, fun k hk => ?_⟩
  ·simp [World.setCell, Array.getElem?_modify, hb2]
  ·exact hown2.kept (row := some b) ⟨rfl, rfl, rfl, by simp [World.setCell], fun k _ hk => Below.heap_setCell _ _ _ _ (fun e => hk (by simp [e]))⟩ (Or.inr hne2)
  ·rcases hwhere k hk with h1 | h1
   ·exact .inl (hFk k h1)
   ·exact .inr (by omega))
 have Hfr := kept ((hb1.trans (Fr.grown hgrow fun k hk => hFk k hk)).trans (Fr.set w2 b 1 v' hF))
 obtain ⟨ao, n', cap, rfl⟩ : ∃ ao n' cap, v' = .slice ao n' cap := by
  rcases hown'.2 with ⟨hv, _⟩ | ⟨g, cap, cur, fz, hv, _⟩
  ·exact ⟨_, _, _, hv⟩
  ·exact ⟨_, _, _, hv⟩
 clear hown' hown2 hne2 hb2 hbk hown hne hgrow hb1 h hwhere
 go_wp2
 go_ret2
 exact ⟨by simp, Hfin.out, Hfr.out⟩
set_option maxHeartbeats 1000000 in
set_option maxRecDepth 100000 in
theorem bf_string {F : Nat → Prop} {b : Nat} {l : List UInt8} {w : World} (h : BF F b l w) (h0 : l ≠ []) :
  Calls Tryz.prog 85 #[.pointer (some ⟨b, 0, none⟩)] w fun e w' => e = .returned (.string ⟨l.toArray⟩) ∧ Fr F w w' := by
 obtain ⟨p, v, hp, hbk, hown, hne, hFb, hFk⟩ := h
 have hl0 : l.length ≠ 0 := by simpa using h0
 obtain ⟨g, cap, cur, fz, rfl, hbg, hg, hfz, hnc, hcm, hcs, htake⟩ : ∃ g cap cur fz, v = .slice (some ⟨g, 0, none⟩) l.length cap ∧ 0 ≤ g ∧ w.heap[g]? = some (.cells cur 5 fz) ∧ fz.2 ≤ l.length * 1 ∧ l.length ≤ cap ∧ cap ≤ maxLen ∧ cur.size = cap * 1 ∧ cur.toList.take (l.length * 1) = Lib.byteCells l := by
  rcases hown.2 with ⟨_, hz⟩ | ⟨g, cap, cur, fz, hv, r⟩
  ·exact absurd hz hl0
  ·exact ⟨g, cap, cur, fz, hv, r⟩
 have HFg := kept (hFk g rfl)
 have c1 : w.drew.cell? ⟨b, 1, none⟩ = some (.slice (some ⟨g, 0, none⟩) l.length cap) := (cell_row2 hbk).2.1
 have hSD : (Builtin.unsafeSliceData_ #[44] 179 #[.slice (some ⟨g, 0, none⟩) l.length cap]).run Tryz.prog w.drew = .ok (.pointer (some ⟨g, 0, none⟩)) w.drew :=
  Lib.run_unsafeSliceData_row _ _ _ _ _ _ (by omega)
 have hUS : (Builtin.unsafeString_ #[179, 3] 9 #[.pointer (some ⟨g, 0, none⟩), .int .i64 l.length]).run Tryz.prog w.drew = .ok (.string ⟨l.toArray⟩) (w.drew.freeze ⟨g, 0, none⟩ l.length) := by
  refine Lib.run_unsafeString_row w.drew 179 3 9 5 Tryz.underlying179 Tryz.Builder_Extra_169.cellsByte g cur.size (by have hg' : w.drew.heap[g]? = some (.cells cur 5 fz) := hg; simp [World.shape?, hg']) l h0 (by omega) (by unfold maxLen at hcm; omega) ?_
  intro j x hx
  have := hown.cells (g := g) rfl j (.int .u8 x.toNat) (by simp [Lib.byteCells, hx])
  exact this
 have Hfr := kept (show Fr F w (w.drew.freeze ⟨g, 0, none⟩ l.length) from by
  unfold World.freeze
  split
  ·exact ⟨rfl, rfl, rfl, Nat.le_refl _, fun _ _ _ => rfl⟩
  ·refine ⟨rfl, rfl, rfl, by simp, fun k hk hn => ?_⟩
   have hkg : k ≠ g := fun e => hn (by rw [e]; exact HFg.out)
   simp only [Array.getElem?_modify, if_neg hkg.symm]; rfl)
 clear hown hp hne hbk hnc hcm hcs htake hfz hg hl0 h0 hFk hFb
 have mixed := Tryz.lays169.mixed
 go_enter Tryz.func85, Tryz.ntmps85
 go_wp2
 go_region_o
 all_goals (go_wp2; go_ret; exact ⟨rfl, Hfr.out⟩)
namespace AX
def bwt (l : List UInt8) : Blk := .opq (fun F g w => BF F g l w) (fun _ => none)
def Bt (h : Hp) (i : Nat) (l : List UInt8) : Prop := h.b[i]? = some (bwt l) ∨ (l = [] ∧ h.b[i]? = some (.cells 140 [.nilp, .sl 0 .nil []]))
theorem BF.stable {F : Nat → Prop} {b : Nat} {l : List UInt8} {w w' : World} (h : BF F b l w) (hs : ∀ g, F g → w'.heap[g]? = w.heap[g]?) : BF F b l w' := by
 obtain ⟨p, v, hp, hb, hown, hne, hF, hFk⟩ := h
 refine ⟨p, v, hp, (hs b hF).trans hb, ⟨hown.1, ?_⟩, hne, hF, hFk⟩
 rcases hown.2 with h1 | ⟨g, cap, cur, fz, rfl, h2, h3, h4⟩
 ·exact .inl h1
 ·exact .inr ⟨g, cap, cur, fz, rfl, h2, (hs g (hFk g rfl)).trans h3, h4⟩
theorem Bt.lt {h : Hp} {i : Nat} {l : List UInt8} (hw : Bt h i l) : i < h.b.length := by
 rcases hw with h1 | ⟨_, h1⟩
 ·exact (List.getElem?_eq_some_iff.1 h1).1
 ·exact (List.getElem?_eq_some_iff.1 h1).1
theorem Bt.bf {h : Hp} {i : Nat} {l : List UInt8} {C : Ctx} {G : World → Prop} (hw : Bt h i l) (hI : Inv G C h) : BF (fun g => C.own g = some i) (C.κ i) l C.w := by
 have hi : i < C.nb := by rw [← hI.nb]; exact hw.lt
 rcases hw with h1 | ⟨rfl, h1⟩
 ·exact (hI.box i _ h1).1 C.w (fun _ _ => rfl) (Nat.le_refl _)
 ·obtain ⟨cs, k1, k2⟩ := hI.box i _ h1
  obtain ⟨c0, d0, rfl, e0, k2⟩ := repL_cons.1 k2
  obtain ⟨c1, d1, rfl, e1, k2⟩ := repL_cons.1 k2
  rw [repL_nil] at k2; subst k2
  rw [rep_nilp] at e0; subst e0
  obtain ⟨a, cap, rfl, _, _, e3, e4, _⟩ := rep_sl.1 e1
  subst e3; subst e4
  exact ⟨_, _, .inl rfl, k1, ⟨rfl, .inl ⟨rfl, rfl⟩⟩, by simp [Value.ownBlock], hI.ownk i hi, fun k hk => by simp [Value.ownBlock] at hk⟩
theorem bwtr_rep {C : Ctx} {i : Nat} {l : List UInt8} (h : BF (fun g => C.own g = some i) (C.κ i) l C.w) : BlkRep C i (bwt l) := by
 refine ⟨fun w' hw _ => BF.stable h hw, fun o x hx => ?_⟩
 cases hx
theorem a_bwrite {h : Hp} {i : Nat} {l : List UInt8} (hw : Bt h i l) (s : List UInt8) (hlen : l.length + s.length ≤ 1000000000) :
  ACall Tryz.prog GT 129 [.ptr i 0, .str s] h fun v h' => v = .tup [.int .i64 s.length, .nili] ∧ h' = ⟨h.b.set i (bwt (l ++ s)), h.t⟩ := by
 intro C es hI ha
 obtain ⟨c, es', rfl, h1, h2⟩ := repL_cons.1 ha
 obtain ⟨rfl, hi⟩ := rep_ptr.1 h1
 obtain rfl := args1 r_str C es' h2
 refine (bf_write (hw.bf hI) s hlen).mono ?_
 rintro e w' ⟨rfl, m1, m2⟩
 have hrep : BlkRep (C.turn w' i true) i (bwt (l ++ s)) := by
  refine bwtr_rep ?_
  obtain ⟨p, v, hp, hb, hown, hne, hF, hFk⟩ := m1
  have hlt := (cell_row2 hb).2.2.2.2
  have hcl : ∀ k, k < w'.heap.size → (C.own k = some i ∨ C.w.heap.size ≤ k) → (C.turn w' i true).own k = some i := fun k hk hor => by
   show (if k < C.w.heap.size then C.own k else if true = true ∧ k < w'.heap.size then some i else none) = some i
   split
   ·rcases hor with h3 | h3
    ·exact h3
    ·omega
   ·rw [if_pos ⟨rfl, hk⟩]
  refine ⟨p, v, hp, hb, hown, hne, hcl _ hlt hF, fun k hk => hcl k ?_ (hFk k hk)⟩
  rcases hown.2 with ⟨rfl, _⟩ | ⟨g, cap, cur, fz, rfl, _, h3, _⟩
  ·simp [Value.ownBlock] at hk
  ·simp only [Value.ownBlock, Option.some.injEq] at hk; subst hk
   exact (Array.getElem?_eq_some_iff.1 h3).1
 obtain ⟨i1, s1⟩ := box_turn (b' := bwt (l ++ s)) true hI hi m2.os m2.tape m2.output m2.size (fun g hg hne => m2.block g hg hne) (fun _ => hrep)
 exact ⟨_, _, .tup [.int .i64 s.length, .nili], _, rfl, rfl, i1, s1, rep_tup.2 ⟨_, rfl, repL_cons.2 ⟨_, _, rfl, rep_int.2 rfl, repL_cons.2 ⟨_, _, rfl, rep_nili.2 rfl, repL_nil.2 rfl⟩⟩⟩, rfl, rfl⟩
theorem a_bstring {h : Hp} {i : Nat} {l : List UInt8} (hw : Bt h i l) (h0 : l ≠ []) : ACall Tryz.prog GT 85 [.ptr i 0] h fun v h' => v = .str l ∧ h' = ⟨h.b.set i dead, h.t⟩ := by
 intro C es hI ha
 obtain ⟨c, es', rfl, h1, h2⟩ := repL_cons.1 ha
 obtain ⟨rfl, hi⟩ := rep_ptr.1 h1
 rw [repL_nil] at h2; subst h2
 refine (bf_string (hw.bf hI) h0).mono ?_
 rintro e w' ⟨rfl, m2⟩
 obtain ⟨i1, s1⟩ := box_turn (b' := dead) false hI hi m2.os m2.tape m2.output m2.size (fun g hg hne => m2.block g hg hne) (fun _ => ⟨fun _ _ _ => trivial, fun o x hx => by cases hx⟩)
 exact ⟨_, _, .str l, _, rfl, rfl, i1, s1, rep_str.2 rfl, rfl, rfl⟩
end AX
end Go.Proofs.YtnjkemakcejceaaGreatDoor

namespace Go.Proofs.YtnjkemakcejceaaGreatDoor
open Go.RowKit
set_option maxHeartbeats 4000000
namespace AX
def c_acheck : AX.AFn := ⟨39, .seq (.reg false [⟨some 1, .box 133 (.t 0), none, []⟩, ⟨some 2, .mv (.c (.int .i64 0)), none, []⟩]) (.seq (.seq (.reg false [⟨some 5, .faddr 0 (.t 1), none, []⟩, ⟨some 6, .load false 1 (.t 5), none, []⟩, ⟨some 7, .len false (.t 6), none, []⟩, ⟨some 8, .bin .gtr (.t 7) (.c (.int .i64 16)), none, []⟩]) (.cond (.t 8) (.seq (.reg false [⟨some 2, .mv (.c (.int .i64 4)), none, []⟩]) (.ret)) (.skip))) (.seq (.seq (.reg false [⟨some 9, .faddr 0 (.t 1), none, []⟩, ⟨some 10, .load false 1 (.t 9), none, []⟩, ⟨some 11, .len false (.t 10), none, []⟩, ⟨some 12, .mv (.c (.int .i64 0)), none, []⟩]) (.block 0 (.loop (.seq (.reg false [⟨some 13, .bin .lss (.t 12) (.t 11), none, []⟩]) (.seq (.cond (.t 13) (.skip) (.exit 0)) (.seq (.block 1 (.seq (.reg false [⟨some 14, .iaddr 4 (.t 10) (.t 12), none, []⟩, ⟨some 15, .load true 4 (.t 14), none, []⟩, ⟨some 4, .alloc 175 [.str [], .int .i64 0, .int .i64 0, .str []], none, []⟩, ⟨none, .store 4 (.t 4) (.t 15), none, []⟩]) (.seq (.seq (.reg false [⟨some 16, .faddr 0 (.t 4), none, []⟩, ⟨some 17, .load false 1 (.t 16), none, []⟩, ⟨some 18, .call 82 [.t 17], none, []⟩, ⟨some 19, .un .not (.t 18), none, []⟩]) (.cond (.t 19) (.seq (.reg false [⟨some 2, .mv (.c (.int .i64 7)), none, []⟩]) (.ret)) (.skip))) (.seq (.reg false [⟨some 20, .faddr 1 (.t 4), none, []⟩, ⟨some 21, .load true 3 (.t 20), none, []⟩, ⟨some 22, .call 210 [.t 21], none, []⟩, ⟨some 23, .un .not (.t 22), none, []⟩]) (.cond (.t 23) (.seq (.reg false [⟨some 2, .mv (.c (.int .i64 1)), none, []⟩]) (.ret)) (.skip)))))) (.reg false [⟨some 24, .bin .add (.t 12) (.c (.int .i64 1)), none, []⟩, ⟨some 12, .mv (.t 24), none, []⟩]))))))) (.seq (.seq (.reg false [⟨some 25, .faddr 2 (.t 1), none, []⟩, ⟨some 26, .load false 1 (.t 25), none, []⟩, ⟨some 27, .call 126 [.t 26], none, []⟩, ⟨some 28, .un .not (.t 27), none, []⟩, ⟨some 29, .mv (.t 28), none, []⟩, ⟨some 30, .faddr 3 (.t 1), some (29, false), []⟩, ⟨some 31, .load false 1 (.t 30), some (29, false), []⟩, ⟨some 32, .call 82 [.t 31], some (29, false), []⟩, ⟨some 33, .un .not (.t 32), some (29, false), []⟩, ⟨some 34, .pick (.t 29) (.c (.bool true)) (.t 33), none, []⟩]) (.cond (.t 34) (.seq (.reg false [⟨some 2, .mv (.c (.int .i64 7)), none, []⟩]) (.ret)) (.skip))) (.seq (.seq (.reg false [⟨some 35, .faddr 4 (.t 1), none, []⟩, ⟨some 36, .load true 3 (.t 35), none, []⟩, ⟨some 37, .call 210 [.t 36], none, []⟩, ⟨some 38, .un .not (.t 37), none, []⟩]) (.cond (.t 38) (.seq (.reg false [⟨some 2, .mv (.c (.int .i64 1)), none, []⟩]) (.ret)) (.skip))) (.seq (.reg false [⟨some 2, .mv (.c (.int .i64 0)), none, []⟩]) (.ret)))))), [.t 2]⟩
theorem h_acheck : AX.compFn Tryz.prog 183 = some c_acheck := by kernel_rfl
def c_afmtkey : AX.AFn := ⟨26, .seq (.reg false [⟨some 1, .box 131 (.t 0), none, []⟩, ⟨some 2, .mv (.c (.str [])), none, []⟩]) (.seq (.block 0 (.seq (.reg false [⟨some 4, .load true 3 (.t 1), none, []⟩, ⟨some 5, .call 210 [.t 4], none, []⟩, ⟨some 6, .un .not (.t 5), none, []⟩, ⟨some 7, .mv (.t 6), none, []⟩, ⟨some 8, .faddr 0 (.t 1), some (7, false), []⟩, ⟨some 9, .load false 1 (.t 8), some (7, false), []⟩, ⟨some 10, .bin .eql (.t 9) (.c (.int .i64 0)), some (7, false), []⟩, ⟨some 11, .pick (.t 7) (.c (.bool true)) (.t 10), none, []⟩, ⟨some 3, .mv (.t 11), none, []⟩]) (.cond (.t 3) (.seq (.reg false [⟨some 2, .mv (.c (.str [])), none, []⟩]) (.ret)) (.seq (.reg false [⟨some 13, .faddr 0 (.t 1), none, []⟩, ⟨some 14, .load false 1 (.t 13), none, []⟩, ⟨some 15, .bin .eql (.t 14) (.c (.int .i64 1)), none, []⟩, ⟨some 12, .mv (.t 15), none, []⟩]) (.cond (.t 12) (.seq (.reg false [⟨some 16, .faddr 1 (.t 1), none, []⟩, ⟨some 17, .load false 1 (.t 16), none, []⟩, ⟨some 18, .call 211 [.t 17], none, []⟩, ⟨some 19, .bin .add (.c (.str [91])) (.t 18), none, []⟩, ⟨some 20, .bin .add (.t 19) (.c (.str [93])), none, []⟩, ⟨some 2, .mv (.t 20), none, []⟩]) (.ret)) (.skip)))))) (.seq (.reg false [⟨some 21, .faddr 2 (.t 1), none, []⟩, ⟨some 22, .load false 1 (.t 21), none, []⟩, ⟨some 23, .call 161 [.t 22], none, []⟩, ⟨some 24, .bin .add (.c (.str [91])) (.t 23), none, []⟩, ⟨some 25, .bin .add (.t 24) (.c (.str [93])), none, []⟩, ⟨some 2, .mv (.t 25), none, []⟩]) (.ret))), [.t 2]⟩
theorem h_afmtkey : AX.compFn Tryz.prog 184 = some c_afmtkey := by kernel_rfl
def c_aformat : AX.AFn := ⟨41, .seq (.reg false [⟨some 1, .box 133 (.t 0), none, []⟩, ⟨some 2, .mv (.c (.str [])), none, []⟩]) (.seq (.seq (.reg false [⟨some 6, .load true 7 (.t 1), none, []⟩, ⟨some 7, .call 183 [.t 6], none, []⟩, ⟨some 8, .bin .neq (.t 7) (.c (.int .i64 0)), none, []⟩]) (.cond (.t 8) (.seq (.reg false [⟨some 2, .mv (.c (.str [])), none, []⟩]) (.ret)) (.skip))) (.seq (.reg false [⟨some 3, .alloc 140 [.nilp, .sl 0 .nil []], none, []⟩]) (.seq (.seq (.reg false [⟨some 9, .faddr 0 (.t 1), none, []⟩, ⟨some 10, .load false 1 (.t 9), none, []⟩, ⟨some 11, .len false (.t 10), none, []⟩, ⟨some 12, .mv (.c (.int .i64 0)), none, []⟩]) (.block 0 (.loop (.seq (.reg false [⟨some 13, .bin .lss (.t 12) (.t 11), none, []⟩]) (.seq (.cond (.t 13) (.skip) (.exit 0)) (.seq (.block 1 (.seq (.reg false [⟨some 14, .iaddr 4 (.t 10) (.t 12), none, []⟩, ⟨some 15, .load true 4 (.t 14), none, []⟩, ⟨some 5, .alloc 175 [.str [], .int .i64 0, .int .i64 0, .str []], none, []⟩, ⟨none, .store 4 (.t 5) (.t 15), none, []⟩]) (.reg true [⟨some 16, .faddr 0 (.t 5), none, []⟩, ⟨some 17, .load false 1 (.t 16), none, [0]⟩, ⟨some 18, .bin .add (.c (.str [109, 111, 100, 117, 108, 101, 46])) (.t 17), none, [1]⟩, ⟨some 19, .faddr 1 (.t 5), none, []⟩, ⟨some 20, .load true 3 (.t 19), none, [3]⟩, ⟨some 21, .call 184 [.t 20], none, [4]⟩, ⟨some 22, .bin .add (.t 18) (.t 21), none, [2, 5]⟩, ⟨some 23, .bin .add (.t 22) (.c (.str [46])), none, [6]⟩, ⟨some 24, .call 129 [.t 3, .t 23], none, [7, 5]⟩]))) (.reg false [⟨some 25, .bin .add (.t 12) (.c (.int .i64 1)), none, []⟩, ⟨some 12, .mv (.t 25), none, []⟩]))))))) (.seq (.seq (.reg false [⟨some 26, .faddr 1 (.t 1), none, []⟩, ⟨some 27, .load false 1 (.t 26), none, []⟩]) (.cond (.t 27) (.reg false [⟨some 28, .call 129 [.t 3, .c (.str [100, 97, 116, 97, 46])], none, []⟩]) (.skip))) (.seq (.reg true [⟨some 29, .faddr 2 (.t 1), none, []⟩, ⟨some 30, .load false 1 (.t 29), none, [0]⟩, ⟨some 31, .bin .add (.t 30) (.c (.str [46])), none, [1]⟩, ⟨some 32, .faddr 3 (.t 1), none, []⟩, ⟨some 33, .load false 1 (.t 32), none, [3]⟩, ⟨some 34, .bin .add (.t 31) (.t 33), none, [2, 4]⟩, ⟨some 35, .faddr 4 (.t 1), none, []⟩, ⟨some 36, .load true 3 (.t 35), none, [6]⟩, ⟨some 37, .call 184 [.t 36], none, [7]⟩, ⟨some 38, .bin .add (.t 34) (.t 37), none, [5, 8]⟩, ⟨some 39, .call 129 [.t 3, .t 38], none, [9, 8]⟩]) (.seq (.reg false [⟨some 40, .call 85 [.t 3], none, []⟩, ⟨some 2, .mv (.t 40), none, []⟩]) (.ret))))))), [.t 2]⟩
theorem h_aformat : AX.compFn Tryz.prog 155 = some c_aformat := by kernel_rfl
def c_aStatic : AX.AFn := ⟨17, .seq (.reg false [⟨some 2, .mv (.c (.str [])), none, []⟩, ⟨some 3, .mv (.c (.int .i64 0)), none, []⟩]) (.seq (.reg false [⟨some 7, .mv (.t 0), none, []⟩, ⟨some 8, .call 81 [.t 7], none, []⟩, ⟨some 6, .mv (.t 8), none, []⟩, ⟨some 9, .extract (.t 6) 0, none, []⟩, ⟨some 10, .extract (.t 6) 1, none, []⟩, ⟨some 4, .alloc 133 [.sl 0 .nil [], .bool false, .str [], .str [], .int .i64 0, .int .i64 0, .str []], none, []⟩, ⟨none, .store 7 (.t 4) (.t 9), none, []⟩, ⟨some 5, .mv (.t 10), none, []⟩]) (.seq (.seq (.reg false [⟨some 11, .mv (.t 5), none, []⟩, ⟨some 12, .bin .neq (.t 11) (.c (.int .i64 0)), none, []⟩]) (.cond (.t 12) (.seq (.reg false [⟨some 13, .mv (.t 5), none, []⟩, ⟨some 2, .mv (.c (.str [])), none, []⟩, ⟨some 3, .mv (.t 13), none, []⟩]) (.ret)) (.skip))) (.seq (.reg false [⟨some 14, .load true 7 (.t 4), none, []⟩, ⟨some 15, .call 156 [.t 14], none, []⟩, ⟨some 16, .call 155 [.t 15], none, []⟩, ⟨some 2, .mv (.t 16), none, []⟩, ⟨some 3, .mv (.c (.int .i64 0)), none, []⟩]) (.ret)))), [.t 2, .t 3]⟩
theorem h_aStatic : AX.compFn Tryz.prog 119 = some c_aStatic := by kernel_rfl
structure Adr.In (a : Adr.Ad) : Prop where
 n : a.mods.length ≤ 3000000
 m : ∀ s ∈ a.mods, s.name.length ≤ 2000000 ∧ s.key.str.length ≤ 2000000
 t : a.type.length ≤ 2000000
 nm : a.name.length ≤ 2000000
 k : a.key.str.length ≤ 2000000
theorem a_acheck (a : Adr.Ad) (hi : Adr.In a) (h : Hp) : ACall Tryz.prog GT 183 [.agg a.cells] h fun r h' => r = .int .i64 (Adr.check a) ∧ h' = h := by
 obtain ⟨mods, data, ty, nm, ⟨kk, kn, ks⟩⟩ := a
 obtain ⟨hn, hm, ht, ha, hk⟩ := hi
 dsimp only at hn hm ht ha hk
 refine pcall ?_ rfl (by simp [A.pure, A.data, Adr.Ad.cells]) h
 refine acall_of mixedT h_acheck (by simp [c_acheck]) ?_
 dsimp only [c_acheck, Adr.Ad.cells]
 have lm : (mods.map Adr.Step.cells).length = mods.length := List.length_map ..
 obtain ⟨Z, hZ⟩ : ∃ Z, Adr.check ⟨mods, data, ty, nm, ⟨kk, kn, ks⟩⟩ = Z := ⟨_, rfl⟩
 rw [hZ]
 unfold Adr.check at hZ
 dsimp only at hZ
 by_cases h16 : (mods.length : Int) > 16
 ·rw [if_pos (by omega)] at hZ
  subst hZ
  (refine AX.run0 (And.intro lm h16) ?_)
  exact ⟨_, le_refl _, rfl⟩
 rw [if_neg (by omega)] at hZ
 have ck := fun h => a_kind ty ht h
 have ci := fun h => a_ident nm ha h
 have cv := fun h => a_avalid ⟨kk, kn, ks⟩ hk h
 unfold Adr.K.A at cv
 dsimp only at cv
 (refine AX.run0 (And.intro lm h16) ?_)
 refine awp_loop (fun mm ts h => ∃ (j : Nat) (l : List Blk), mm = mods.length - j ∧ j ≤ mods.length ∧ h = ⟨.cells 133 [.sl 4 .no (mods.map Adr.Step.cells), .bool data, .str ty, .str nm, .int .i64 kk, .int .i64 kn, .str ks] :: l, []⟩ ∧
  (match (mods.drop j).find? (fun s => !(Adr.ident s.name && Adr.keyOk s.key)) with
  | some s => if Adr.ident s.name then (1 : Int) else 7
  | none => if !Adr.kindB ty || !Adr.ident nm then 7 else if !Adr.keyOk ⟨kk, kn, ks⟩ then 1 else 0) = Z ∧
  ts 1 = .ptr 0 0 ∧ ts 10 = .sl 4 .no (mods.map Adr.Step.cells) ∧ ts 11 = .int .i64 (mods.length : Nat) ∧ ts 12 = .int .i64 (j : Nat)) mods.length ?_ ?_
 ·exact ⟨0, [], by omega, by omega, rfl, hZ, by (exact AX.ev0 True.intro), by (exact AX.ev0 True.intro), by (exact AX.ev0 lm), by (exact AX.inv0 True.intro)⟩
 rintro mm ts h ⟨j, l, rfl, hjc, rfl, hit, t1, t10, t11, t12⟩
 by_cases hj : j < mods.length
 ·have hlt : (j : Int) < (mods.length : Int) := by omega
  have hlt' : (j : Int) < ((mods.map Adr.Step.cells).length : Int) := by rw [lm]; exact hlt
  have hj0 : (0 : Int) ≤ (j : Int) := by omega
  have ei : IntKind.i64.wrap ((j : Int) + 1) = ((j + 1 : Nat) : Int) := by rw [wrap64 (by omega) (by omega)]; omega
  have hg := map_getD Adr.Step.cells mods j hj
  have hmj := hm _ (List.getElem_mem hj)
  rw [List.drop_eq_getElem_cons hj, List.find?_cons] at hit
  obtain ⟨x, hx⟩ : ∃ x, mods[j] = x := ⟨_, rfl⟩
  rw [hx] at hg hmj hit
  obtain ⟨xn, ⟨xk, xm, xs⟩⟩ := x
  dsimp only [Adr.Step.cells] at hg hmj hit
  have cxi := fun h => a_ident xn hmj.1 h
  have cxv := fun h => a_avalid ⟨xk, xm, xs⟩ hmj.2 h
  unfold Adr.K.A at cxv
  dsimp only at cxv
  obtain ⟨I, hI⟩ : ∃ I, Adr.ident xn = I := ⟨_, rfl⟩
  obtain ⟨K, hK⟩ : ∃ K, Adr.keyOk ⟨xk, xm, xs⟩ = K := ⟨_, rfl⟩
  rw [hI] at cxi hit
  rw [hK] at cxv hit
  (refine AX.run0 (And.intro t1 (And.intro t10 (And.intro t11 (And.intro t12 (And.intro hlt (And.intro hlt' (And.intro hj0 hg))))))) ?_)
  refine use (cxi _) ?_
  cases I
  ·simp only [Bool.false_and, Bool.not_false] at hit
   rw [hI] at hit
   simp only [Bool.false_eq_true, if_false] at hit
   subst hit
   (refine AX.run0 (And.intro t1 (And.intro t10 (And.intro t11 t12))) ?_)
   exact ⟨_, le_refl _, rfl⟩
  (refine AX.run0 (And.intro t1 (And.intro t10 (And.intro t11 t12))) ?_)
  refine use (cxv _) ?_
  cases K
  ·simp only [Bool.and_false, Bool.not_false] at hit
   rw [hI] at hit
   simp only [if_true] at hit
   subst hit
   (refine AX.run0 (And.intro t1 (And.intro t10 (And.intro t11 t12))) ?_)
   exact ⟨_, le_refl _, rfl⟩
  ·simp only [Bool.and_true, Bool.not_true] at hit
   (refine AX.run0 (And.intro t1 (And.intro t10 (And.intro t11 (And.intro t12 ei)))) ?_)
   exact ⟨mods.length - (j + 1), by omega, j + 1, _, rfl, by omega, rfl, hit, by (exact AX.ev0 t1), by (exact AX.ev0 t10), by (exact AX.ev0 t11), by (exact AX.ev0 ei)⟩
 ·have hlt : ¬ ((j : Int) < (mods.length : Int)) := by omega
  rw [List.drop_eq_nil_of_le (by omega)] at hit
  simp only [List.find?_nil] at hit
  (refine AX.run0 (And.intro t1 (And.intro t10 (And.intro t11 (And.intro t12 hlt)))) ?_)
  refine use (ck _) ?_
  cases hkb : Adr.kindB ty
  ·rw [hkb] at hit
   rw [if_pos (by simp)] at hit
   subst hit
   (refine AX.run0 (And.intro t1 (And.intro t10 (And.intro t11 t12))) ?_)
   exact ⟨_, le_refl _, rfl⟩
  rw [hkb] at hit
  (refine AX.run0 (And.intro t1 (And.intro t10 (And.intro t11 t12))) ?_)
  refine use (ci _) ?_
  cases hib : Adr.ident nm
  ·rw [hib] at hit
   rw [if_pos (by simp)] at hit
   subst hit
   (refine AX.run0 (And.intro t1 (And.intro t10 (And.intro t11 t12))) ?_)
   exact ⟨_, le_refl _, rfl⟩
  rw [hib] at hit
  rw [if_neg (by simp)] at hit
  (refine AX.run0 (And.intro t1 (And.intro t10 (And.intro t11 t12))) ?_)
  refine use (cv _) ?_
  cases hvb : Adr.keyOk ⟨kk, kn, ks⟩
  ·rw [hvb] at hit
   rw [if_pos (by simp)] at hit
   subst hit
   (refine AX.run0 (And.intro t1 (And.intro t10 (And.intro t11 t12))) ?_)
   exact ⟨_, le_refl _, rfl⟩
  ·rw [hvb] at hit
   rw [if_neg (by simp)] at hit
   subst hit
   (refine AX.run0 (And.intro t1 (And.intro t10 (And.intro t11 t12))) ?_)
   exact ⟨_, le_refl _, rfl⟩
theorem a_fmtkey0 (h : Hp) : ACall Tryz.prog GT 184 [.agg [.int .i64 0, .int .i64 0, .str []]] h fun r h' => r = .str [] ∧ h' = h := by
 refine pcall ?_ rfl (by simp [A.pure, A.data]) h
 refine acall_of mixedT h_afmtkey (by simp [c_afmtkey]) ?_
 dsimp only [c_afmtkey]
 have cv := fun h => a_avalid Adr.K.none (by unfold Adr.K.none; simp) h
 have e1 : Adr.keyOk Adr.K.none = true := by decide
 rw [e1] at cv
 unfold Adr.K.A Adr.K.none at cv
 dsimp only at cv
 (refine AX.run0 True.intro ?_)
 refine use (cv _) ?_
 (refine AX.run0 True.intro ?_)
 exact ⟨_, le_refl _, rfl⟩
def Bw (acc : List UInt8) (w : Blk) : Prop := w = bwt acc ∨ (acc = [] ∧ w = .cells 140 [.nilp, .sl 0 .nil []])
theorem Bw.bt {acc : List UInt8} {w B0 : Blk} {l : List Blk} {t : List (TypeId × Nat × Nat)} (hw : Bw acc w) : Bt ⟨B0 :: w :: l, t⟩ 1 acc := by
 rcases hw with rfl | ⟨rfl, rfl⟩
 ·exact .inl rfl
 ·exact .inr ⟨rfl, rfl⟩
def stepB (s : Adr.Step) : List UInt8 := Adr.modW ++ s.name ++ [46]
theorem fmt_bare (mods : List Adr.Step) (data : Bool) (ty nm : List UInt8) (hk : ∀ s ∈ mods, s.key = Adr.K.none) (hc : Adr.check ⟨mods, data, ty, nm, Adr.K.none⟩ = 0) :
  Adr.fmt ⟨mods, data, ty, nm, Adr.K.none⟩ = mods.flatMap stepB ++ (if data then Adr.dataW else []) ++ (ty ++ [46] ++ nm) := by
 have hn : Adr.fmtKey Adr.K.none = [] := by decide
 unfold Adr.fmt
 rw [if_neg (by simp [hc])]
 dsimp only
 rw [hn]
 have e : Adr.steps mods = mods.flatMap stepB := by
  unfold Adr.steps
  induction mods with
  | nil => rfl
  | cons x l ih =>
   have hx := hk x (by simp)
   have hcl : ∀ l : List Adr.Step, (∀ s ∈ l, s.key = Adr.K.none) → (l.flatMap fun s => Adr.modW ++ s.name ++ Adr.fmtKey s.key ++ [46]) = l.flatMap stepB := by
    intro l
    induction l with
    | nil => intro _; rfl
    | cons y l ih =>
     intro hl
     rw [List.flatMap_cons, List.flatMap_cons, ih fun s hs => hl s (by simp [hs]), hl y (by simp), hn]
     unfold stepB
     simp
   exact hcl _ hk
 rw [e]
 simp
theorem fm_snoc' {α : Type} (f : α → List UInt8) (l : List α) (j : Nat) (hj : j < l.length) : (l.take (j + 1)).flatMap f = (l.take j).flatMap f ++ f l[j] := by
 rw [List.take_succ_eq_append_getElem hj, List.flatMap_append]; simp
theorem fm_len16 : ∀ (l : List Adr.Step), (∀ s ∈ l, s.name.length ≤ 2000000) → (l.flatMap stepB).length ≤ l.length * 2000008
 | [], _ => by simp
 | x :: l, h => by
  rw [List.flatMap_cons, List.length_append, List.length_cons, Nat.succ_mul]
  have h1 := fm_len16 l fun s hs => h s (by simp [hs])
  have h2 := h x (by simp)
  have h3 : (stepB x).length = x.name.length + 8 := by unfold stepB; simp [Adr.modW] <;> omega
  omega
theorem a_format0 (a : Adr.Ad) (hi : Adr.In a) (hk : ∀ s ∈ a.mods, s.key = Adr.K.none) (hkk : a.key = Adr.K.none) (h : Hp) : ACall Tryz.prog GT 155 [.agg a.cells] h fun r h' => r = .str (Adr.fmt a) ∧ h' = h := by
 have cc := fun h => a_acheck a hi h
 obtain ⟨mods, data, ty, nm, key⟩ := a
 dsimp only at hk hkk
 subst hkk
 have hfb := fmt_bare mods data ty nm hk
 obtain ⟨hn, hm, ht, ha, _⟩ := hi
 dsimp only at hn hm ht ha
 refine pcall ?_ rfl (by simp [A.pure, A.data, Adr.Ad.cells]) h
 refine acall_of mixedT h_aformat (by simp [c_aformat]) ?_
 dsimp only [c_aformat, Adr.Ad.cells, Adr.K.none] at cc ⊢
 have lm : (mods.map Adr.Step.cells).length = mods.length := List.length_map ..
 by_cases hc0 : Adr.check ⟨mods, data, ty, nm, Adr.K.none⟩ = 0
 rotate_left
 ·have e1 : (Adr.check ⟨mods, data, ty, nm, Adr.K.none⟩ != 0) = true := by simp [hc0]
  have hfz : Adr.fmt ⟨mods, data, ty, nm, Adr.K.none⟩ = [] := by unfold Adr.fmt; rw [if_pos hc0]
  unfold Adr.K.none at e1 hfz
  (refine AX.run0 True.intro ?_)
  refine use (cc _) ?_
  (refine AX.run0 e1 ?_)
  exact ⟨_, le_refl _, by rw [hfz]; rfl⟩
 have e1 : (Adr.check ⟨mods, data, ty, nm, Adr.K.none⟩ != 0) = false := by simp [hc0]
 have hf := hfb hc0
 have hn16 : mods.length ≤ 16 := by
  rcases Nat.lt_or_ge 16 mods.length with h16 | h16
  ·unfold Adr.check at hc0
   rw [if_pos h16] at hc0
   exact absurd hc0 (by decide)
  ·exact h16
 have hlenall := fm_len16 mods fun s hs => (hm s hs).1
 unfold Adr.K.none at e1 hf
 rw [hf]
 (refine AX.run0 True.intro ?_)
 refine use (cc _) ?_
 (refine AX.run0 (And.intro e1 lm) ?_)
 refine awp_loop (fun mm ts h => ∃ (j : Nat) (w : Blk) (l : List Blk), mm = mods.length - j ∧ j ≤ mods.length ∧ h = ⟨.cells 133 [.sl 4 .no (mods.map Adr.Step.cells), .bool data, .str ty, .str nm, .int .i64 0, .int .i64 0, .str []] :: w :: l, []⟩ ∧ Bw ((mods.take j).flatMap stepB) w ∧
  ts 1 = .ptr 0 0 ∧ ts 3 = .ptr 1 0 ∧ ts 10 = .sl 4 .no (mods.map Adr.Step.cells) ∧ ts 11 = .int .i64 (mods.length : Nat) ∧ ts 12 = .int .i64 (j : Nat)) mods.length ?_ ?_
 ·exact ⟨0, _, [], by omega, by omega, rfl, .inr ⟨rfl, rfl⟩, by (exact AX.ev0 True.intro), by (exact AX.ev0 True.intro), by (exact AX.ev0 True.intro), by (exact AX.ev0 lm), by (exact AX.inv0 True.intro)⟩
 rintro mm ts h ⟨j, w, l, rfl, hjc, rfl, hw, t1, t3, t10, t11, t12⟩
 have hacc : ((mods.take j).flatMap stepB).length ≤ 32000128 := by
  have h2 : (mods.take j).length ≤ 16 := by rw [List.length_take]; omega
  exact Nat.le_trans (fm_len16 (mods.take j) fun s hs => (hm s (List.mem_of_mem_take hs)).1) (Nat.le_trans (Nat.mul_le_mul_right 2000008 h2) (by decide))
 by_cases hj : j < mods.length
 ·have hlt : (j : Int) < (mods.length : Int) := by omega
  have hlt' : (j : Int) < ((mods.map Adr.Step.cells).length : Int) := by rw [lm]; exact hlt
  have hj0 : (0 : Int) ≤ (j : Int) := by omega
  have ei : IntKind.i64.wrap ((j : Int) + 1) = ((j + 1 : Nat) : Int) := by rw [wrap64 (by omega) (by omega)]; omega
  have hg := map_getD Adr.Step.cells mods j hj
  have hmj := hm _ (List.getElem_mem hj)
  have hkj := hk _ (List.getElem_mem hj)
  have hsn := fm_snoc' stepB mods j hj
  obtain ⟨x, hx⟩ : ∃ x, mods[j] = x := ⟨_, rfl⟩
  rw [hx] at hg hmj hkj hsn
  obtain ⟨xn, xk⟩ := x
  dsimp only at hkj
  subst hkj
  dsimp only [Adr.Step.cells, Adr.K.none] at hg hmj
  have hxl := hmj.1
  have hsl : (stepB ⟨xn, Adr.K.none⟩).length = xn.length + 8 := by unfold stepB; simp [Adr.modW] <;> omega
  have hse : 109 :: 111 :: 100 :: 117 :: 108 :: 101 :: 46 :: (xn ++ [46]) = stepB ⟨xn, Adr.K.none⟩ := rfl
  have l1 : 7 + xn.length < 1099511627776 := by omega
  have l2 : xn.length + 7 < 1099511627776 := by omega
  have l3 : xn.length + 7 + 1 < 1099511627776 := by omega
  have l4 : xn.length + 8 < 1099511627776 := by omega
  have hcw := fun (z : Blk) => a_bwrite (h := ⟨.cells 133 [.sl 4 .no (mods.map Adr.Step.cells), .bool data, .str ty, .str nm, .int .i64 0, .int .i64 0, .str []] :: w :: (l ++ [z]), []⟩) (i := 1) hw.bt (stepB ⟨xn, Adr.K.none⟩) (by rw [hsl]; omega)
  rw [← hsn] at hcw
  have hcf := fun h => a_fmtkey0 h
  (refine AX.run0 (And.intro t1 (And.intro t3 (And.intro t10 (And.intro t11 (And.intro t12 (And.intro hlt (And.intro hlt' (And.intro hj0 (And.intro hg (And.intro l1 hse)))))))))) ?_)
  refine use (hcf _) ?_
  (refine AX.run0 (And.intro t1 (And.intro t3 (And.intro t10 (And.intro t11 (And.intro t12 (And.intro l1 (And.intro l2 (And.intro l3 (And.intro l4 hse))))))))) ?_)
  refine use (hcw _) ?_
  (refine AX.run0 (And.intro t1 (And.intro t3 (And.intro t10 (And.intro t11 (And.intro t12 ei))))) ?_)
  exact ⟨mods.length - (j + 1), by omega, j + 1, _, _, rfl, by omega, rfl, .inl rfl, by (exact AX.ev0 t1), by (exact AX.ev0 t3), by (exact AX.ev0 t10), by (exact AX.ev0 t11), by (exact AX.ev0 ei)⟩
 ·have hlt : ¬ ((j : Int) < (mods.length : Int)) := by omega
  have hje : j = mods.length := by omega
  subst hje
  rw [List.take_length] at hw hacc
  obtain ⟨P, hP⟩ : ∃ P, mods.flatMap stepB = P := ⟨_, rfl⟩
  rw [hP] at hw hacc ⊢
  have hcf := fun h => a_fmtkey0 h
  have hdw : Adr.dataW = [100, 97, 116, 97, 46] := rfl
  have l1 : ty.length + 1 < 1099511627776 := by omega
  have l2 : ty.length + 1 + nm.length < 1099511627776 := by omega
  have l3 : ty.length + (nm.length + 1) < 1099511627776 := by omega
  have l4 : ty.length + 1 + nm.length < 1099511627776 := by omega
  cases data
  ·have hcw := a_bwrite (h := ⟨.cells 133 [.sl 4 .no (mods.map Adr.Step.cells), .bool false, .str ty, .str nm, .int .i64 0, .int .i64 0, .str []] :: w :: l, []⟩) (i := 1) hw.bt (ty ++ [46] ++ nm) (by simp; omega)
   have hcs := a_bstring (h := ⟨.cells 133 [.sl 4 .no (mods.map Adr.Step.cells), .bool false, .str ty, .str nm, .int .i64 0, .int .i64 0, .str []] :: bwt (P ++ (ty ++ [46] ++ nm)) :: l, []⟩) (i := 1) (.inl rfl) (by simp)
   (refine AX.run0 (And.intro t1 (And.intro t3 (And.intro t10 (And.intro t11 (And.intro t12 (And.intro hlt (And.intro l1 (And.intro l2 l3)))))))) ?_)
   refine use (hcf _) ?_
   (refine AX.run0 (And.intro t1 (And.intro t3 (And.intro t10 (And.intro t11 (And.intro t12 (And.intro hlt (And.intro l1 (And.intro l2 (And.intro l3 l4))))))))) ?_)
   refine use hcw ?_
   (refine AX.run0 (And.intro t1 (And.intro t3 (And.intro t10 (And.intro t11 t12)))) ?_)
   refine use hcs ?_
   (refine AX.run0 (And.intro t1 (And.intro t3 (And.intro t10 (And.intro t11 t12)))) ?_)
   exact ⟨_, le_refl _, by simp [tupA_1]⟩
  ·have hcd := a_bwrite (h := ⟨.cells 133 [.sl 4 .no (mods.map Adr.Step.cells), .bool true, .str ty, .str nm, .int .i64 0, .int .i64 0, .str []] :: w :: l, []⟩) (i := 1) hw.bt Adr.dataW (by rw [hdw]; simp; omega)
   have hcw := a_bwrite (h := ⟨.cells 133 [.sl 4 .no (mods.map Adr.Step.cells), .bool true, .str ty, .str nm, .int .i64 0, .int .i64 0, .str []] :: bwt (P ++ Adr.dataW) :: l, []⟩) (i := 1) (.inl rfl) (ty ++ [46] ++ nm) (by rw [hdw]; simp; omega)
   have hcs := a_bstring (h := ⟨.cells 133 [.sl 4 .no (mods.map Adr.Step.cells), .bool true, .str ty, .str nm, .int .i64 0, .int .i64 0, .str []] :: bwt (P ++ Adr.dataW ++ (ty ++ [46] ++ nm)) :: l, []⟩) (i := 1) (.inl rfl) (by simp)
   rw [hdw] at hcd hcw hcs ⊢
   (refine AX.run0 (And.intro t1 (And.intro t3 (And.intro t10 (And.intro t11 (And.intro t12 (And.intro hlt (And.intro l1 (And.intro l2 l3)))))))) ?_)
   refine use hcd ?_
   (refine AX.run0 (And.intro t1 (And.intro t3 (And.intro t10 (And.intro t11 (And.intro t12 (And.intro hlt (And.intro l1 (And.intro l2 l3)))))))) ?_)
   refine use (hcf _) ?_
   (refine AX.run0 (And.intro t1 (And.intro t3 (And.intro t10 (And.intro t11 (And.intro t12 (And.intro hlt (And.intro l1 (And.intro l2 (And.intro l3 l4))))))))) ?_)
   refine use hcw ?_
   (refine AX.run0 (And.intro t1 (And.intro t3 (And.intro t10 (And.intro t11 t12)))) ?_)
   refine use hcs ?_
   (refine AX.run0 (And.intro t1 (And.intro t3 (And.intro t10 (And.intro t11 t12)))) ?_)
   exact ⟨_, le_refl _, by simp [tupA_1]⟩
end AX
end Go.Proofs.YtnjkemakcejceaaGreatDoor

namespace Go.Proofs.YtnjkemakcejceaaGreatDoor
open Go.RowKit
set_option maxHeartbeats 4000000
namespace AX
def c_vknown : AX.AFn := ⟨12, .seq (.reg false [⟨some 1, .box 40 (.t 0), none, []⟩, ⟨some 2, .mv (.c (.bool false)), none, []⟩]) (.seq (.reg false [⟨some 3, .faddr 0 (.t 1), none, []⟩, ⟨some 4, .load false 1 (.t 3), none, []⟩, ⟨some 5, .bin .neq (.t 4) (.c (.int .i64 6)), none, []⟩, ⟨some 6, .mv (.t 5), none, []⟩, ⟨some 7, .faddr 3 (.t 1), some (6, true), []⟩, ⟨some 8, .load false 1 (.t 7), some (6, true), []⟩, ⟨some 9, .call 117 [.t 8, .c (.fn 118 [])], some (6, true), []⟩, ⟨some 10, .un .not (.t 9), some (6, true), []⟩, ⟨some 11, .pick (.t 6) (.t 10) (.c (.bool false)), none, []⟩, ⟨some 2, .mv (.t 11), none, []⟩]) (.ret)), [.t 2]⟩
theorem h_vknown : AX.compFn Tryz.prog 77 = some c_vknown := by kernel_rfl
def c_vknown1 : AX.AFn := ⟨6, .seq (.reg false [⟨some 1, .box 40 (.t 0), none, []⟩, ⟨some 2, .mv (.c (.bool false)), none, []⟩]) (.seq (.reg false [⟨some 3, .load true 5 (.t 1), none, []⟩, ⟨some 4, .call 77 [.t 3], none, []⟩, ⟨some 5, .un .not (.t 4), none, []⟩, ⟨some 2, .mv (.t 5), none, []⟩]) (.ret)), [.t 2]⟩
theorem h_vknown1 : AX.compFn Tryz.prog 118 = some c_vknown1 := by kernel_rfl
def c_containsv : AX.AFn := ⟨9, .seq (.reg false [⟨some 4, .mv (.c (.bool false)), none, []⟩]) (.seq (.reg false [⟨some 5, .mv (.t 0), none, []⟩, ⟨some 6, .mv (.t 1), none, []⟩, ⟨some 7, .call 154 [.t 5, .t 6], none, []⟩, ⟨some 8, .bin .geq (.t 7) (.c (.int .i64 0)), none, []⟩, ⟨some 4, .mv (.t 8), none, []⟩]) (.ret)), [.t 4]⟩
theorem h_containsv : AX.compFn Tryz.prog 117 = some c_containsv := by kernel_rfl
def c_indexv : AX.AFn := ⟨19, .seq (.reg false [⟨some 4, .mv (.c (.int .i64 0)), none, []⟩]) (.seq (.seq (.reg false [⟨some 6, .mv (.t 0), none, []⟩, ⟨some 7, .len false (.t 6), none, []⟩, ⟨some 8, .mv (.c (.int .i64 0)), none, []⟩]) (.block 0 (.loop (.seq (.reg false [⟨some 9, .bin .lss (.t 8) (.t 7), none, []⟩]) (.seq (.cond (.t 9) (.skip) (.exit 0)) (.seq (.block 1 (.seq (.reg false [⟨some 10, .mv (.t 8), none, []⟩, ⟨some 5, .mv (.t 10), none, []⟩]) (.seq (.reg false [⟨some 11, .mv (.t 1), none, []⟩, ⟨some 12, .mv (.t 0), none, []⟩, ⟨some 13, .mv (.t 5), none, []⟩, ⟨some 14, .iaddr 5 (.t 12) (.t 13), none, []⟩, ⟨some 15, .load true 5 (.t 14), none, []⟩, ⟨some 16, .callv (.t 11) [.t 15], none, []⟩]) (.cond (.t 16) (.seq (.reg false [⟨some 17, .mv (.t 5), none, []⟩, ⟨some 4, .mv (.t 17), none, []⟩]) (.ret)) (.skip))))) (.reg false [⟨some 18, .bin .add (.t 8) (.c (.int .i64 1)), none, []⟩, ⟨some 8, .mv (.t 18), none, []⟩]))))))) (.seq (.reg false [⟨some 4, .mv (.c (.int .i64 (-1))), none, []⟩]) (.ret))), [.t 4]⟩
theorem h_indexv : AX.compFn Tryz.prog 154 = some c_indexv := by kernel_rfl
def unkIdx : Nat → List V → Int
 | _, [] => -1
 | i, v :: l => if Sf.known v = true then unkIdx (i + 1) l else i
theorem unkIdx_ge : ∀ (l : List V) (i : Nat), unkIdx i l ≥ 0 ↔ Sf.knowns l = false
 | [], i => by simp [unkIdx, Sf.knowns]
 | v :: l, i => by
  unfold unkIdx Sf.knowns
  cases h : Sf.known v
  ·simp
  ·simp only [if_true, Bool.true_and]; exact unkIdx_ge l (i + 1)
theorem a_indexv (is : List V) (hn : is.length ≤ 9223372036854775807) (hf : ∀ x ∈ is, ∀ h, ACall Tryz.prog GT 118 [x.A] h fun r h' => r = .bool (!Sf.known x) ∧ h' = h) (h : Hp) : ACall Tryz.prog GT 154 [.sl 5 .no (V.cellss is), .fn 118 []] h fun r h' => r = .int .i64 (unkIdx 0 is) ∧ h' = h := by
 refine pcall ?_ rfl (by simp [A.pure, A.data]) h
 refine acall_of mixedT h_indexv (by simp [c_indexv]) ?_
 dsimp only [c_indexv]
 obtain ⟨D, hD⟩ : ∃ D, unkIdx 0 is = D := ⟨_, rfl⟩
 rw [hD]
 (refine AX.run0 @V.cellss_length ?_)
 refine awp_loop (fun mm ts h => ∃ (j : Nat), mm = is.length - j ∧ j ≤ is.length ∧ h = ⟨[], []⟩ ∧ unkIdx j (is.drop j) = D ∧ ts 0 = .sl 5 .no (V.cellss is) ∧ ts 1 = .fn 118 [] ∧ ts 7 = .int .i64 (is.length : Nat) ∧ ts 8 = .int .i64 (j : Nat)) is.length ?_ ?_
 ·exact ⟨0, by omega, by omega, rfl, hD, by (exact AX.ev0 True.intro), by (exact AX.ev0 True.intro), by (exact AX.ev0 @V.cellss_length), by (exact AX.inv0 True.intro)⟩
 rintro mm ts h ⟨j, rfl, hjc, rfl, hit, t0, t1, t7, t8⟩
 by_cases hj : j < is.length
 ·have hlt : (j : Int) < (is.length : Int) := by omega
  have hlt' : (j : Int) < ((V.cellss is).length : Int) := by rw [V.cellss_length]; exact hlt
  have hj0 : (0 : Int) ≤ (j : Int) := by omega
  have ei : IntKind.i64.wrap ((j : Int) + 1) = ((j + 1 : Nat) : Int) := by rw [wrap64 (by omega) (by omega)]; omega
  have hg := V.cellss_get is j hj
  have cf := hf is[j] (List.getElem_mem hj)
  rw [List.drop_eq_getElem_cons hj] at hit
  unfold unkIdx at hit
  obtain ⟨x, hx⟩ : ∃ x, is[j] = x := ⟨_, rfl⟩
  rw [hx] at hg cf hit
  obtain ⟨K, hK⟩ : ∃ K, Sf.known x = K := ⟨_, rfl⟩
  rw [hK] at cf hit
  obtain ⟨k, n, w, vi, vy⟩ := x
  have hVA : (V.mk k n w vi vy).A = .agg [.int .i64 k, .int .i64 n, .str w, .sl 5 .no (V.cellss vi), .sl 1 .no (strsA vy)] := by simp only [V.A, V.cells]
  rw [hVA] at cf
  simp only [V.cells] at hg
  (refine AX.run0 (And.intro t0 (And.intro t1 (And.intro t7 (And.intro t8 (And.intro hlt (And.intro hg (And.intro hlt' hj0))))))) ?_)
  refine use (cf _) ?_
  cases K
  ·rw [if_neg (by simp)] at hit
   subst hit
   (refine AX.run0 (And.intro t0 (And.intro t1 (And.intro t7 t8))) ?_)
   exact ⟨_, le_refl _, rfl⟩
  ·rw [if_pos rfl] at hit
   (refine AX.run0 (And.intro t0 (And.intro t1 (And.intro t7 (And.intro t8 ei)))) ?_)
   exact ⟨is.length - (j + 1), by omega, j + 1, rfl, by omega, rfl, hit, by (exact AX.ev0 t0), by (exact AX.ev0 t1), by (exact AX.ev0 t7), by (exact AX.ev0 ei)⟩
 ·have hlt : ¬ ((j : Int) < (is.length : Int)) := by omega
  rw [List.drop_eq_nil_of_le (by omega)] at hit
  unfold unkIdx at hit
  subst hit
  (refine AX.run0 (And.intro t0 (And.intro t1 (And.intro t7 (And.intro t8 hlt)))) ?_)
  exact ⟨_, le_refl _, rfl⟩
theorem a_known : ∀ (v : V), v.lens → ∀ h, ACall Tryz.prog GT 77 [v.A] h fun r h' => r = .bool (Sf.known v) ∧ h' = h := by
 refine V.induct ?_
 intro k n s is ks ih hl h
 have hlen : is.length ≤ 9223372036854775807 := by have h1 := hl.1; unfold maxLen at h1; omega
 have hf : ∀ x ∈ is, ∀ h, ACall Tryz.prog GT 118 [x.A] h fun r h' => r = .bool (!Sf.known x) ∧ h' = h := by
  intro x hx h
  have ck := ih x hx (V.lensS_mem hl.2.2.2.2 x hx)
  obtain ⟨K, hK⟩ : ∃ K, Sf.known x = K := ⟨_, rfl⟩
  rw [hK] at ck ⊢
  obtain ⟨k, n, w, vi, vy⟩ := x
  have hVA : (V.mk k n w vi vy).A = .agg [.int .i64 k, .int .i64 n, .str w, .sl 5 .no (V.cellss vi), .sl 1 .no (strsA vy)] := by simp only [V.A, V.cells]
  rw [hVA] at ck ⊢
  refine pcall ?_ rfl (by simp [A.pure, A.data]) h
  refine acall_of mixedT h_vknown1 (by simp [c_vknown1]) ?_
  dsimp only [c_vknown1]
  (refine AX.run0 True.intro ?_)
  refine use (ck _) ?_
  (refine AX.run0 True.intro ?_)
  exact ⟨_, le_refl _, rfl⟩
 have hc : ∀ h, ACall Tryz.prog GT 117 [.sl 5 .no (V.cellss is), .fn 118 []] h fun r h' => r = .bool (!Sf.knowns is) ∧ h' = h := by
  intro h
  refine pcall ?_ rfl (by simp [A.pure, A.data]) h
  refine acall_of mixedT h_containsv (by simp [c_containsv]) ?_
  dsimp only [c_containsv]
  have hge := unkIdx_ge is 0
  have ca := a_indexv is hlen hf
  obtain ⟨D, hD⟩ : ∃ D, unkIdx 0 is = D := ⟨_, rfl⟩
  rw [hD] at hge ca
  (refine AX.run0 True.intro ?_)
  refine use (ca _) ?_
  by_cases hd : D ≥ 0
  ·rw [hge.1 hd]
   (refine AX.run0 hd ?_)
   exact ⟨_, le_refl _, rfl⟩
  ·have hk : Sf.knowns is = true := by cases hk : Sf.knowns is; exact absurd (hge.2 hk) hd; rfl
   rw [hk]
   (refine AX.run0 hd ?_)
   exact ⟨_, le_refl _, rfl⟩
 have hVA : (V.mk k n s is ks).A = .agg [.int .i64 k, .int .i64 n, .str s, .sl 5 .no (V.cellss is), .sl 1 .no (strsA ks)] := by simp only [V.A, V.cells]
 have hK : Sf.known (.mk k n s is ks) = (k != 6 && Sf.knowns is) := by simp [Sf.known]
 rw [hVA, hK]
 refine pcall ?_ rfl (by simp [A.pure, A.data]) h
 refine acall_of mixedT h_vknown (by simp [c_vknown]) ?_
 dsimp only [c_vknown]
 by_cases h6 : k = 6
 ·have e : (k != 6) = false := by simp [h6]
  rw [e]
  (refine AX.run0 e ?_)
  exact ⟨_, le_refl _, rfl⟩
 ·have e : (k != 6) = true := by simp [h6]
  rw [e]
  (refine AX.run0 e ?_)
  refine use (hc _) ?_
  cases Sf.knowns is
  ·(refine AX.run0 True.intro ?_)
   exact ⟨_, le_refl _, rfl⟩
  ·(refine AX.run0 True.intro ?_)
   exact ⟨_, le_refl _, rfl⟩
end AX
end Go.Proofs.YtnjkemakcejceaaGreatDoor

namespace Go.Proofs.YtnjkemakcejceaaGreatDoor
open Go.RowKit
open Go.Op (bytesLess)
set_option maxHeartbeats 4000000
namespace AX
def c_cmpor : AX.AFn := ⟨18, .seq (.reg false [⟨some 2, .mv (.c (.int .i64 0)), none, []⟩]) (.seq (.reg false [⟨some 3, .mv (.c (.int .i64 0)), none, []⟩]) (.seq (.seq (.reg false [⟨some 6, .mv (.t 0), none, []⟩, ⟨some 7, .len false (.t 6), none, []⟩, ⟨some 8, .mv (.c (.int .i64 0)), none, []⟩]) (.block 0 (.loop (.seq (.reg false [⟨some 9, .bin .lss (.t 8) (.t 7), none, []⟩]) (.seq (.cond (.t 9) (.skip) (.exit 0)) (.seq (.block 1 (.seq (.reg false [⟨some 10, .iaddr 1 (.t 6) (.t 8), none, []⟩, ⟨some 11, .load false 1 (.t 10), none, []⟩, ⟨some 5, .mv (.t 11), none, []⟩]) (.seq (.reg false [⟨some 12, .mv (.t 5), none, []⟩, ⟨some 13, .mv (.t 3), none, []⟩, ⟨some 14, .bin .neq (.t 12) (.t 13), none, []⟩]) (.cond (.t 14) (.seq (.reg false [⟨some 15, .mv (.t 5), none, []⟩, ⟨some 2, .mv (.t 15), none, []⟩]) (.ret)) (.skip))))) (.reg false [⟨some 16, .bin .add (.t 8) (.c (.int .i64 1)), none, []⟩, ⟨some 8, .mv (.t 16), none, []⟩]))))))) (.seq (.reg false [⟨some 17, .mv (.t 3), none, []⟩, ⟨some 2, .mv (.t 17), none, []⟩]) (.ret)))), [.t 2]⟩
theorem h_cmpor : AX.compFn Tryz.prog 79 = some c_cmpor := by kernel_rfl
def c_pcompare : AX.AFn := ⟨17, .seq (.reg false [⟨some 2, .box 91 (.t 0), none, []⟩, ⟨some 3, .box 91 (.t 1), none, []⟩, ⟨some 4, .mv (.c (.int .i64 0)), none, []⟩]) (.seq (.reg true [⟨some 5, .faddr 0 (.t 2), none, []⟩, ⟨some 6, .load false 1 (.t 5), none, [0]⟩, ⟨some 7, .faddr 0 (.t 3), none, []⟩, ⟨some 8, .load false 1 (.t 7), none, [2]⟩, ⟨some 9, .call 80 [.t 6, .t 8], none, [1, 3]⟩, ⟨some 10, .faddr 1 (.t 2), none, []⟩, ⟨some 11, .load false 1 (.t 10), none, [5]⟩, ⟨some 12, .faddr 1 (.t 3), none, []⟩, ⟨some 13, .load false 1 (.t 12), none, [7]⟩, ⟨some 14, .call 80 [.t 11, .t 13], none, [6, 8, 4]⟩, ⟨some 15, .mks 1 [.t 9, .t 14], none, [4, 9]⟩, ⟨some 16, .call 79 [.t 15], none, [10, 9]⟩, ⟨some 4, .mv (.t 16), none, [11, 11, 0, 1, 2, 3, 4, 5, 6, 7, 8, 9, 10, 11]⟩]) (.ret)), [.t 4]⟩
theorem h_pcompare : AX.compFn Tryz.prog 42 = some c_pcompare := by kernel_rfl
theorem a_or (a b : Int) (h : Hp) : ACall Tryz.prog GT 79 [.sl 1 .no [[.int .i64 a], [.int .i64 b]]] h fun r h' => r = .int .i64 (if a ≠ 0 then a else b) ∧ h' = h := by
 refine pcall ?_ rfl (by simp [A.pure, A.data]) h
 refine acall_of mixedT h_cmpor (by simp [c_cmpor]) ?_
 dsimp only [c_cmpor]
 (refine AX.run0 True.intro ?_)
 have ew0 : IntKind.i64.wrap ((0 : Int) + 1) = 1 := by decide
 have ew1 : IntKind.i64.wrap ((1 : Int) + 1) = 2 := by decide
 have en1 : Int.toNat 1 = 1 := rfl
 have lt0 : (0 : Int) < ((2 : Nat) : Int) := by decide
 have lt1 : (1 : Int) < ((2 : Nat) : Int) := by decide
 have lt2 : ¬ (2 : Int) < ((2 : Nat) : Int) := by decide
 have le1 : (0 : Int) ≤ 1 := by decide
 refine awp_loop (fun mm ts h => h = ⟨[], []⟩ ∧ ts 3 = .int .i64 0 ∧ ts 6 = .sl 1 .no [[.int .i64 a], [.int .i64 b]] ∧ ts 7 = .int .i64 ((2 : Nat) : Int) ∧ ((mm = 2 ∧ ts 8 = .int .i64 0) ∨ (mm = 1 ∧ ts 8 = .int .i64 1 ∧ a = 0) ∨ (mm = 0 ∧ ts 8 = .int .i64 2 ∧ a = 0 ∧ b = 0))) 2 ?_ ?_
 ·exact ⟨rfl, by (exact AX.ev0 True.intro), by (exact AX.ev0 True.intro), by (exact AX.ev0 True.intro), .inl ⟨rfl, by (exact AX.ev0 True.intro)⟩⟩
 rintro mm ts h ⟨rfl, t3, t6, t7, ⟨rfl, t8⟩ | ⟨rfl, t8, ha⟩ | ⟨rfl, t8, ha, hb⟩⟩
 ·by_cases ha : a = 0
  ·have e1 : (a != 0) = false := by simp [ha]
   (refine AX.run0 (And.intro t3 (And.intro t6 (And.intro t7 (And.intro t8 (And.intro e1 (And.intro ew0 lt0)))))) ?_)
   exact ⟨1, by omega, rfl, by (exact AX.ev0 t3), by (exact AX.ev0 t6), by (exact AX.ev0 t7), .inr (.inl ⟨rfl, by (exact AX.ev0 ew0), ha⟩)⟩
  ·have e1 : (a != 0) = true := by simp [ha]
   (refine AX.run0 (And.intro t3 (And.intro t6 (And.intro t7 (And.intro t8 (And.intro e1 lt0))))) ?_)
   exact ⟨_, le_refl _, by rw [if_pos ha]; rfl⟩
 ·by_cases hb : b = 0
  ·have e1 : (b != 0) = false := by simp [hb]
   (refine AX.run0 (And.intro t3 (And.intro t6 (And.intro t7 (And.intro t8 (And.intro e1 (And.intro ew1 (And.intro en1 (And.intro lt1 le1)))))))) ?_)
   exact ⟨0, by omega, rfl, by (exact AX.ev0 t3), by (exact AX.ev0 t6), by (exact AX.ev0 t7), .inr (.inr ⟨rfl, by (exact AX.ev0 ew1), ha, hb⟩)⟩
  ·have e1 : (b != 0) = true := by simp [hb]
   (refine AX.run0 (And.intro t3 (And.intro t6 (And.intro t7 (And.intro t8 (And.intro e1 (And.intro en1 (And.intro lt1 le1))))))) ?_)
   exact ⟨_, le_refl _, by rw [if_neg (by simp [ha])]; rfl⟩
 ·(refine AX.run0 (And.intro t3 (And.intro t6 (And.intro t7 (And.intro t8 lt2)))) ?_)
  exact ⟨_, le_refl _, by rw [if_neg (by simp [ha]), hb]; rfl⟩
def cmp2 (a b c d : List UInt8) : Int := if cmpZ a c ≠ 0 then cmpZ a c else cmpZ b d
theorem a_compare (L : Leafs) (a b c d : List UInt8) (h : Hp) : ACall Tryz.prog GT 42 [.agg [.str a, .str b], .agg [.str c, .str d]] h fun r h' => r = .int .i64 (cmp2 a b c d) ∧ h' = h := by
 refine pcall ?_ rfl (by simp [A.pure, A.data]) h
 refine acall_of mixedT h_pcompare (by simp [c_pcompare]) ?_
 dsimp only [c_pcompare]
 (refine AX.run0 True.intro ?_)
 refine use (L.cmp a c _) ?_
 (refine AX.run0 True.intro ?_)
 refine use (L.cmp b d _) ?_
 (refine AX.run0 True.intro ?_)
 refine use (a_or (cmpZ a c) (cmpZ b d) _) ?_
 (refine AX.run0 True.intro ?_)
 exact ⟨_, le_refl _, rfl⟩
theorem cmp2_ge (x y : Sf.Inst) : (cmp2 x.addr x.dep y.addr y.dep ≥ 0) ↔ Sf.behind x y = false := by
 unfold cmp2 Sf.behind cmpZ
 by_cases h1 : x.addr = y.addr
 ·have irr : bytesLess y.addr y.addr = false := by
   have := Val.less_total y.addr y.addr
   cases h : bytesLess y.addr y.addr
   ·rfl
   ·rw [h] at this; simp at this
  rw [h1, irr]
  by_cases h2 : x.dep = y.dep
  ·have irr2 : bytesLess y.dep y.dep = false := by
    have := Val.less_total y.dep y.dep
    cases h : bytesLess y.dep y.dep
    ·rfl
    ·rw [h] at this; simp at this
   simp [h2, irr2]
  ·cases h3 : bytesLess x.dep y.dep <;> simp [h2]
 ·cases h3 : bytesLess x.addr y.addr <;> simp [h1]
end AX
end Go.Proofs.YtnjkemakcejceaaGreatDoor

namespace Go.Proofs.YtnjkemakcejceaaGreatDoor
open Go.RowKit
open Go.Op (bytesLess)
set_option maxHeartbeats 4000000
namespace AX
structure Sf.StIn (s : Sf.St) : Prop where
 lin : s.lin.length ≤ 2000000
 insts : ∀ x ∈ s.insts, Sf.InstIn x
 pends : ∀ x ∈ s.pends, x.addr.length ≤ 2000000 ∧ x.tok.length ≤ 2000000
 outs : ∀ x ∈ s.outs, x.name.length ≤ 2000000 ∧ x.value.lens
 li : s.insts.length ≤ 1000000000
 lp : s.pends.length ≤ 1000000000
 lo : s.outs.length ≤ 1000000000
theorem a_scheck (L : Leafs) (st : Sf.St) (ok : Sf.StIn st) : SCheck st := by
 intro h
 obtain ⟨lin, ser, ins, ps, os⟩ := st
 have ct := fun h => L.text lin ok.lin h
 have li : ins.length ≤ 1000000000 := ok.li
 have lp : ps.length ≤ 1000000000 := ok.lp
 have lo : os.length ≤ 1000000000 := ok.lo
 have lm1 : (ins.map Sf.Inst.cells).length = ins.length := List.length_map _
 have lm2 : (ps.map Sf.Pend.cells).length = ps.length := List.length_map _
 have lm3 : (os.map Sf.Outp.cells).length = os.length := List.length_map _
 obtain ⟨Z, hZ⟩ : ∃ Z, Sf.checkZ ⟨lin, ser, ins, ps, os⟩ = Z := ⟨_, rfl⟩
 rw [hZ]
 unfold Sf.checkZ at hZ
 dsimp only at hZ
 refine pcall ?_ rfl (by simp [A.pure, A.data, Sf.St.A]) h
 refine acall_of mixedT h_scheck (by simp [c_scheck]) ?_
 dsimp only [c_scheck, Sf.St.A]
 (refine AX.run0 True.intro ?_)
 refine use (ct _) ?_
 cases hT : Sf.text lin
 ·rw [hT, if_pos (by decide)] at hZ
  subst hZ
  (refine AX.run0 True.intro ?_)
  exact ⟨_, le_refl _, rfl⟩
 rw [hT, if_neg (by decide)] at hZ
 by_cases s0 : ser < 0
 ·rw [if_pos (.inl s0)] at hZ
  subst hZ
  (refine AX.run0 s0 ?_)
  exact ⟨_, le_refl _, rfl⟩
 by_cases s1 : ser > 9007199254740992
 ·rw [if_pos (.inr s1)] at hZ
  subst hZ
  (refine AX.run0 (And.intro s0 s1) ?_)
  exact ⟨_, le_refl _, rfl⟩
 rw [if_neg (by omega)] at hZ
 obtain ⟨mx, hmx⟩ : ∃ mx : Int, (if (os.length : Int) > (if (ps.length : Int) > (ins.length : Int) then (ps.length : Int) else (ins.length : Int)) then (os.length : Int) else (if (ps.length : Int) > (ins.length : Int) then (ps.length : Int) else (ins.length : Int))) = mx := ⟨_, rfl⟩
 have hm5 : mx > 512 ↔ (512 < ins.length ∨ 512 < ps.length ∨ 512 < os.length) := by
  rw [← hmx]; split <;> split <;> omega
 by_cases hm : mx > 512
 ·rw [if_pos (hm5.1 hm)] at hZ
  subst hZ
  (refine AX.run0 (And.intro s0 (And.intro s1 (And.intro lm1 (And.intro lm2 (And.intro lm3 (And.intro hmx hm)))))) ?_)
  exact ⟨_, le_refl _, rfl⟩
 rw [if_neg (fun e => hm (hm5.2 e))] at hZ
 obtain ⟨I, hI⟩ : ∃ I, Sf.instsZ none ins = I := ⟨_, rfl⟩
 obtain ⟨P, hP⟩ : ∃ P, Sf.pendsZ none ps = P := ⟨_, rfl⟩
 obtain ⟨O, hO⟩ : ∃ O, Sf.outsZ none os = O := ⟨_, rfl⟩
 have fi1 : ∀ z, z ≠ 0 → z = I → Z = z := fun z h e => by rw [hI, ← e, if_pos h] at hZ; exact hZ.symm
 have fi2 : I = 0 → (if P ≠ 0 then P else O) = Z := fun e => by rw [hI, hP, hO, e, if_neg (by simp)] at hZ; exact hZ
 (refine AX.run0 (And.intro s0 (And.intro s1 (And.intro lm1 (And.intro lm2 (And.intro lm3 (And.intro hmx hm)))))) ?_)
 refine awp_loop (fun mm ts h => ∃ (j : Nat) (l : List Blk), mm = ins.length - j ∧ j ≤ ins.length ∧ h = ⟨.cells 26 [.str lin, .int .i64 ser, .sl 13 .no (ins.map Sf.Inst.cells), .sl 3 .no (ps.map Sf.Pend.cells), .sl 7 .no (os.map Sf.Outp.cells)] :: l, []⟩ ∧ Sf.instsZ (if j = 0 then none else ins[j - 1]?) (ins.drop j) = I ∧ ts 1 = .ptr 0 0 ∧ ts 35 = .sl 13 .no (ins.map Sf.Inst.cells) ∧ ts 36 = .int .i64 (ins.length : Nat) ∧ ts 37 = .int .i64 (j : Nat)) ins.length ?_ ?_
 ·exact ⟨0, [], by omega, by omega, rfl, hI, by (exact AX.ev0 True.intro), by (exact AX.ev0 True.intro), by (exact AX.ev0 (And.intro lm1 (And.intro lm2 lm3))), by (exact AX.inv0 True.intro)⟩
 rintro mm ts h ⟨j, l, rfl, hjc, rfl, hit, t1, ta, tb, tc⟩
 by_cases hj : j < ins.length
 ·have hlt : (j : Int) < (ins.length : Int) := by omega
  have hlt' : (j : Int) < ((ins.map Sf.Inst.cells).length : Int) := by rw [List.length_map]; exact hlt
  have hj0 : (0 : Int) ≤ (j : Int) := by omega
  have ei : IntKind.i64.wrap ((j : Int) + 1) = ((j + 1 : Nat) : Int) := by rw [wrap64 (by omega) (by omega)]; omega
  have hg := map_getD Sf.Inst.cells ins j hj
  have hm := List.getElem_mem hj
  rw [List.drop_eq_getElem_cons hj] at hit
  obtain ⟨x, hx⟩ : ∃ x, ins[j] = x := ⟨_, rfl⟩
  rw [hx] at hit hg hm
  have ci := fun h => a_instance L x (ok.insts x hm) h
  have cp := fun h => a_placeOf x h
  have hxj : ins[j]? = some x := by rw [List.getElem?_eq_getElem hj, hx]
  have hx2 : ∃ x2, x = x2 := ⟨_, rfl⟩
  unfold Sf.instsZ at hit
  obtain ⟨Z1, hZ1⟩ : ∃ z, Sf.instZ x = z := ⟨_, rfl⟩
  rw [hZ1] at ci hit
  have cge := fun y => cmp2_ge y x
  have cc := fun (y : Sf.Inst) h => a_compare L y.addr y.dep x.addr x.dep h
  have nx : Sf.instsZ (some x) (ins.drop (j + 1)) = I → Sf.instsZ (if j + 1 = 0 then none else ins[j + 1 - 1]?) (ins.drop (j + 1)) = I := fun e => by rw [if_neg (by omega), Nat.add_sub_cancel, hxj]; exact e
  clear hx2 hm hZ1
  have cells : ∃ a d id ty k n s is ks v tn fi ds, x = ⟨a, d, id, ty, .mk k n s is ks, v, tn, fi, ds⟩ := by obtain ⟨a, d, id, ty, ⟨k, n, s, is, ks⟩, v, tn, fi, ds⟩ := x; exact ⟨_, _, _, _, _, _, _, _, _, _, _, _, _, rfl⟩
  obtain ⟨a, d, id, ty, k, n, s, is, ks, v, tn, fi, ds, hxe⟩ := cells
  have hxc : x.cells = [.str a, .str d, .str id, .str ty, .int .i64 k, .int .i64 n, .str s, .sl 5 .no (V.cellss is), .sl 1 .no (strsA ks), .int .i64 v, .bool tn, .bool fi, .sl 1 .no (strsA ds)] := by rw [hxe]; rfl
  rw [hxc] at ci cp hg
  (refine AX.run0 (And.intro t1 (And.intro ta (And.intro tb (And.intro tc (And.intro hlt (And.intro hg (And.intro hlt' hj0))))))) ?_)
  refine use (ci _) ?_
  by_cases hz : Z1 = 0
  rotate_left
  ·have e1 : (Z1 != 0) = true := by simp [hz]
   rw [if_pos hz] at hit
   have hZf := fi1 Z1 hz hit
   (refine AX.run0 (And.intro t1 (And.intro ta (And.intro tb (And.intro tc e1)))) ?_)
   exact ⟨_, le_refl _, by rw [hZf]; rfl⟩
  have e1 : (Z1 != 0) = false := by simp [hz]
  rw [if_neg (by simp [hz])] at hit
  cases j with
  | zero =>
   have h0 : ¬ ((0 : Nat) : Int) > 0 := by omega
   simp only [if_true, Bool.false_eq_true, if_false] at hit
   (refine AX.run0 (And.intro t1 (And.intro ta (And.intro tb (And.intro tc (And.intro e1 (And.intro h0 ei)))))) ?_)
   exact ⟨ins.length - (0 + 1), by omega, 0 + 1, l ++ [.cells 42 [.str a, .str d, .str id, .str ty, .int .i64 k, .int .i64 n, .str s, .sl 5 .no (V.cellss is), .sl 1 .no (strsA ks), .int .i64 v, .bool tn, .bool fi, .sl 1 .no (strsA ds)]], rfl, by omega, rfl, nx hit, by (exact AX.ev0 t1), by (exact AX.ev0 ta), by (exact AX.ev0 tb), by (exact AX.ev0 ei)⟩
  | succ i =>
   have h0 : ((i + 1 : Nat) : Int) > 0 := by omega
   have ej : IntKind.i64.wrap (((i + 1 : Nat) : Int) - 1) = (i : Int) := by rw [wrap64 (by omega) (by omega)]; omega
   have hg2 := map_getD Sf.Inst.cells ins i (by omega)
   have hi' : (i : Int) < ((ins.map Sf.Inst.cells).length : Int) := by rw [List.length_map]; omega
   have hi0 : (0 : Int) ≤ (i : Int) := by omega
   have hki : ins[i + 1 - 1]? = some (ins[i]'(by omega)) := List.getElem?_eq_getElem (by omega)
   rw [show (if i + 1 = 0 then none else ins[i + 1 - 1]?) = (some (ins[i]'(by omega))) from by rw [if_neg (by omega), hki]] at hit
   obtain ⟨y, hy⟩ : ∃ y, ins[i]'(by omega) = y := ⟨_, rfl⟩
   rw [hy] at hit hg2
   dsimp only at hit
   have cpy := fun h => a_placeOf y h
   have hyc : ∃ b1 b2 b3 b4 b5 b6 b7 b8 b9 c1 c2 c3 c4, y.cells = [.str b1, .str b2, .str b3, .str b4, .int .i64 b5, .int .i64 b6, .str b7, .sl 5 .no (V.cellss b8), .sl 1 .no (strsA b9), .int .i64 c1, .bool c2, .bool c3, .sl 1 .no (strsA c4)] := by obtain ⟨a, d, id, ty, ⟨k, n, s, is, ks⟩, v, tn, fi, ds⟩ := y; exact ⟨_, _, _, _, _, _, _, _, _, _, _, _, _, rfl⟩
   obtain ⟨b1, b2, b3, b4, b5, b6, b7, b8, b9, c1, c2, c3, c4, hyc⟩ := hyc
   rw [hyc] at hg2 cpy
   have cg := cge y
   have cy := cc y
   obtain ⟨c, hc⟩ : ∃ c, cmp2 y.addr y.dep x.addr x.dep = c := ⟨_, rfl⟩
   rw [hc] at cg cy
   (refine AX.run0 (And.intro t1 (And.intro ta (And.intro tb (And.intro tc (And.intro e1 (And.intro h0 (And.intro ej (And.intro hg2 (And.intro hi' hi0))))))))) ?_)
   refine use (cpy _) ?_
   (refine AX.run0 (And.intro t1 (And.intro ta (And.intro tb tc))) ?_)
   refine use (cp _) ?_
   (refine AX.run0 (And.intro t1 (And.intro ta (And.intro tb tc))) ?_)
   refine use (cy _) ?_
   by_cases hcz : c ≥ 0
   ·simp only [cg.1 hcz, Bool.not_false, if_true] at hit
    have hZf := fi1 1 (by decide) hit
    (refine AX.run0 (And.intro t1 (And.intro ta (And.intro tb (And.intro tc hcz)))) ?_)
    exact ⟨_, le_refl _, by rw [hZf]; rfl⟩
   ·have hb : Sf.behind y x = true := by cases hb : Sf.behind y x; exact absurd (cg.2 hb) hcz; rfl
    simp only [hb, Bool.not_true, Bool.false_eq_true, if_false] at hit
    (refine AX.run0 (And.intro t1 (And.intro ta (And.intro tb (And.intro tc (And.intro hcz ei))))) ?_)
    exact ⟨ins.length - ((i + 1) + 1), by omega, (i + 1) + 1, l ++ [.cells 42 [.str a, .str d, .str id, .str ty, .int .i64 k, .int .i64 n, .str s, .sl 5 .no (V.cellss is), .sl 1 .no (strsA ks), .int .i64 v, .bool tn, .bool fi, .sl 1 .no (strsA ds)]], rfl, by omega, rfl, nx hit, by (exact AX.ev0 t1), by (exact AX.ev0 ta), by (exact AX.ev0 tb), by (exact AX.ev0 ei)⟩
 have hlt : ¬ ((j : Int) < (ins.length : Int)) := by omega
 rw [List.drop_eq_nil_of_le (by omega)] at hit
 unfold Sf.instsZ at hit
 have fi2 := fi2 hit.symm
 (refine AX.run0 (And.intro t1 (And.intro ta (And.intro tb (And.intro tc (And.intro hlt (And.intro lm1 (And.intro lm2 lm3))))))) ?_)
 clear hit hlt hjc ta tb tc fi1
 have fj1 : ∀ z, z ≠ 0 → z = P → Z = z := fun z h e => by rw [← e, if_pos h] at fi2; exact fi2.symm
 have fj2 : P = 0 → Z = O := fun e => by rw [e, if_neg (by simp)] at fi2; exact fi2.symm
 obtain ⟨l0, hl0⟩ : ∃ l0 : List Blk, l = l0 := ⟨_, rfl⟩
 refine awp_loop (fun mm ts h => ∃ (j : Nat) (l : List Blk), mm = ps.length - j ∧ j ≤ ps.length ∧ h = ⟨.cells 26 [.str lin, .int .i64 ser, .sl 13 .no (ins.map Sf.Inst.cells), .sl 3 .no (ps.map Sf.Pend.cells), .sl 7 .no (os.map Sf.Outp.cells)] :: l, []⟩ ∧ Sf.pendsZ (if j = 0 then none else ps[j - 1]?.map Sf.Pend.tok) (ps.drop j) = P ∧ ts 1 = .ptr 0 0 ∧ ts 64 = .sl 3 .no (ps.map Sf.Pend.cells) ∧ ts 65 = .int .i64 (ps.length : Nat) ∧ ts 66 = .int .i64 (j : Nat)) ps.length ?_ ?_
 ·exact ⟨0, l, by omega, by omega, rfl, hP, by (exact AX.ev0 t1), by (exact AX.ev0 t1), by (exact AX.ev0 (And.intro t1 (And.intro lm1 (And.intro lm2 lm3)))), by (exact AX.inv0 t1)⟩
 rintro mm ts h ⟨j, l, rfl, hjc, rfl, hit, t1, ta, tb, tc⟩
 by_cases hj : j < ps.length
 ·have hlt : (j : Int) < (ps.length : Int) := by omega
  have hlt' : (j : Int) < ((ps.map Sf.Pend.cells).length : Int) := by rw [List.length_map]; exact hlt
  have hj0 : (0 : Int) ≤ (j : Int) := by omega
  have ei : IntKind.i64.wrap ((j : Int) + 1) = ((j + 1 : Nat) : Int) := by rw [wrap64 (by omega) (by omega)]; omega
  have hg := map_getD Sf.Pend.cells ps j hj
  have hm := List.getElem_mem hj
  rw [List.drop_eq_getElem_cons hj] at hit
  obtain ⟨x, hx⟩ : ∃ x, ps[j] = x := ⟨_, rfl⟩
  rw [hx] at hit hg hm
  have hin := ok.pends x hm
  have ct := fun h => L.text x.tok hin.2 h
  have cm := fun h => a_managed L x.addr x.typ hin.1 h
  have hxj : ps[j]? = some x := by rw [List.getElem?_eq_getElem hj, hx]
  unfold Sf.pendsZ Sf.pendB at hit
  have nx : Sf.pendsZ (some x.tok) (ps.drop (j + 1)) = P → Sf.pendsZ (if j + 1 = 0 then none else ps[j + 1 - 1]?.map Sf.Pend.tok) (ps.drop (j + 1)) = P := fun e => by rw [if_neg (by omega), Nat.add_sub_cancel, hxj]; exact e
  simp only [Sf.Pend.cells] at hg
  obtain ⟨T, hT⟩ : ∃ T, Sf.text x.tok = T := ⟨_, rfl⟩
  rw [hT] at ct hit
  obtain ⟨M, hM⟩ : ∃ M, Sf.managed x.addr x.typ = M := ⟨_, rfl⟩
  rw [hM] at cm hit
  (refine AX.run0 (And.intro t1 (And.intro ta (And.intro tb (And.intro tc (And.intro hlt (And.intro hg (And.intro hlt' hj0))))))) ?_)
  refine use (ct _) ?_
  cases T
  ·rw [if_pos (by simp)] at hit
   have hZf := fj1 1 (by decide) hit
   (refine AX.run0 (And.intro t1 (And.intro ta (And.intro tb tc))) ?_)
   exact ⟨_, le_refl _, by rw [hZf]; rfl⟩
  (refine AX.run0 (And.intro t1 (And.intro ta (And.intro tb tc))) ?_)
  refine use (cm _) ?_
  cases M
  ·rw [if_pos (by simp)] at hit
   have hZf := fj1 1 (by decide) hit
   (refine AX.run0 (And.intro t1 (And.intro ta (And.intro tb tc))) ?_)
   exact ⟨_, le_refl _, by rw [hZf]; rfl⟩
  cases j with
  | zero =>
   have h0 : ¬ ((0 : Nat) : Int) > 0 := by omega
   rw [if_neg (by simp [Val.badB])] at hit
   (refine AX.run0 (And.intro t1 (And.intro ta (And.intro tb (And.intro tc (And.intro h0 ei))))) ?_)
   exact ⟨ps.length - (0 + 1), by omega, 0 + 1, l ++ [.cells 95 [.str x.addr, .str x.typ, .str x.tok]], rfl, by omega, rfl, nx hit, by (exact AX.ev0 t1), by (exact AX.ev0 ta), by (exact AX.ev0 tb), by (exact AX.ev0 ei)⟩
  | succ i =>
   have h0 : ((i + 1 : Nat) : Int) > 0 := by omega
   have ej : IntKind.i64.wrap (((i + 1 : Nat) : Int) - 1) = (i : Int) := by rw [wrap64 (by omega) (by omega)]; omega
   have hg2 := map_getD Sf.Pend.cells ps i (by omega)
   have hi' : (i : Int) < ((ps.map Sf.Pend.cells).length : Int) := by rw [List.length_map]; omega
   have hi0 : (0 : Int) ≤ (i : Int) := by omega
   have hki : ps[i + 1 - 1]? = some (ps[i]'(by omega)) := List.getElem?_eq_getElem (by omega)
   rw [show (if i + 1 = 0 then none else ps[i + 1 - 1]?.map Sf.Pend.tok) = (some (ps[i]'(by omega))).map Sf.Pend.tok from by rw [if_neg (by omega), hki]] at hit
   obtain ⟨y, hy⟩ : ∃ y, ps[i]'(by omega) = y := ⟨_, rfl⟩
   rw [hy] at hit hg2
   simp only [Sf.Pend.cells] at hg2
   simp only [Option.map_some, Val.badB] at hit
   cases hb : bytesLess y.tok x.tok
   ·simp only [hb, Bool.true_and, Bool.and_true, Bool.not_true, Bool.not_false, Bool.false_or, Bool.true_or, if_true] at hit
    have hZf := fj1 1 (by decide) hit
    (refine AX.run0 (And.intro t1 (And.intro ta (And.intro tb (And.intro tc (And.intro h0 (And.intro ej (And.intro hg2 (And.intro hi' (And.intro hi0 hb))))))))) ?_)
    exact ⟨_, le_refl _, by rw [hZf]; rfl⟩
   ·simp only [hb, Bool.true_and, Bool.and_true, Bool.not_true, Bool.not_false, Bool.false_or, Bool.or_false, Bool.false_eq_true, if_false] at hit
    (refine AX.run0 (And.intro t1 (And.intro ta (And.intro tb (And.intro tc (And.intro h0 (And.intro ej (And.intro hg2 (And.intro hi' (And.intro hi0 (And.intro hb ei)))))))))) ?_)
    exact ⟨ps.length - ((i + 1) + 1), by omega, (i + 1) + 1, l ++ [.cells 95 [.str x.addr, .str x.typ, .str x.tok]], rfl, by omega, rfl, nx hit, by (exact AX.ev0 t1), by (exact AX.ev0 ta), by (exact AX.ev0 tb), by (exact AX.ev0 ei)⟩
 have hlt : ¬ ((j : Int) < (ps.length : Int)) := by omega
 rw [List.drop_eq_nil_of_le (by omega)] at hit
 unfold Sf.pendsZ at hit
 have fj2 := fj2 hit.symm
 (refine AX.run0 (And.intro t1 (And.intro ta (And.intro tb (And.intro tc (And.intro hlt (And.intro lm1 (And.intro lm2 lm3))))))) ?_)
 clear hit hlt hjc ta tb tc fj1 hl0 l0
 refine awp_loop (fun mm ts h => ∃ (j : Nat) (l : List Blk), mm = os.length - j ∧ j ≤ os.length ∧ h = ⟨.cells 26 [.str lin, .int .i64 ser, .sl 13 .no (ins.map Sf.Inst.cells), .sl 3 .no (ps.map Sf.Pend.cells), .sl 7 .no (os.map Sf.Outp.cells)] :: l, []⟩ ∧ Sf.outsZ (if j = 0 then none else os[j - 1]?.map Sf.Outp.name) (os.drop j) = O ∧ ts 1 = .ptr 0 0 ∧ ts 101 = .sl 7 .no (os.map Sf.Outp.cells) ∧ ts 102 = .int .i64 (os.length : Nat) ∧ ts 103 = .int .i64 (j : Nat)) os.length ?_ ?_
 ·exact ⟨0, l, by omega, by omega, rfl, hO, by (exact AX.ev0 t1), by (exact AX.ev0 t1), by (exact AX.ev0 (And.intro t1 (And.intro lm1 (And.intro lm2 lm3)))), by (exact AX.inv0 t1)⟩
 rintro mm ts h ⟨j, l, rfl, hjc, rfl, hit, t1, ta, tb, tc⟩
 by_cases hj : j < os.length
 ·have hlt : (j : Int) < (os.length : Int) := by omega
  have hlt' : (j : Int) < ((os.map Sf.Outp.cells).length : Int) := by rw [List.length_map]; exact hlt
  have hj0 : (0 : Int) ≤ (j : Int) := by omega
  have ei : IntKind.i64.wrap ((j : Int) + 1) = ((j + 1 : Nat) : Int) := by rw [wrap64 (by omega) (by omega)]; omega
  have hg := map_getD Sf.Outp.cells os j hj
  have hm := List.getElem_mem hj
  rw [List.drop_eq_getElem_cons hj] at hit
  obtain ⟨x, hx⟩ : ∃ x, os[j] = x := ⟨_, rfl⟩
  rw [hx] at hit hg hm
  have hin := ok.outs x hm
  have ci := fun h => a_output L x hin.1 hin.2 h
  have hxj : os[j]? = some x := by rw [List.getElem?_eq_getElem hj, hx]
  unfold Sf.outsZ at hit
  have nx : Sf.outsZ (some x.name) (os.drop (j + 1)) = O → Sf.outsZ (if j + 1 = 0 then none else os[j + 1 - 1]?.map Sf.Outp.name) (os.drop (j + 1)) = O := fun e => by rw [if_neg (by omega), Nat.add_sub_cancel, hxj]; exact e
  obtain ⟨Z1, hZ1⟩ : ∃ z, Sf.outZ x = z := ⟨_, rfl⟩
  rw [hZ1] at ci hit
  clear hZ1
  obtain ⟨m, ⟨k, n, s, is, ks⟩, b⟩ := x
  simp only [Sf.Outp.cells] at hg ci
  dsimp only at hit nx
  (refine AX.run0 (And.intro t1 (And.intro ta (And.intro tb (And.intro tc (And.intro hlt (And.intro hg (And.intro hlt' hj0))))))) ?_)
  refine use (ci _) ?_
  by_cases hz : Z1 = 0
  rotate_left
  ·have e1 : (Z1 != 0) = true := by simp [hz]
   rw [if_pos hz] at hit
   (refine AX.run0 (And.intro t1 (And.intro ta (And.intro tb (And.intro tc e1)))) ?_)
   exact ⟨_, le_refl _, by rw [fj2, ← hit]; rfl⟩
  have e1 : (Z1 != 0) = false := by simp [hz]
  rw [if_neg (by simp [hz])] at hit
  cases j with
  | zero =>
   have h0 : ¬ ((0 : Nat) : Int) > 0 := by omega
   rw [if_neg (by simp [Val.badB])] at hit
   (refine AX.run0 (And.intro t1 (And.intro ta (And.intro tb (And.intro tc (And.intro e1 (And.intro h0 ei)))))) ?_)
   exact ⟨os.length - (0 + 1), by omega, 0 + 1, l ++ [.cells 98 [.str m, .int .i64 k, .int .i64 n, .str s, .sl 5 .no (V.cellss is), .sl 1 .no (strsA ks), .bool b]], rfl, by omega, rfl, nx hit, by (exact AX.ev0 t1), by (exact AX.ev0 ta), by (exact AX.ev0 tb), by (exact AX.ev0 ei)⟩
  | succ i =>
   have h0 : ((i + 1 : Nat) : Int) > 0 := by omega
   have ej : IntKind.i64.wrap (((i + 1 : Nat) : Int) - 1) = (i : Int) := by rw [wrap64 (by omega) (by omega)]; omega
   have hg2 := map_getD Sf.Outp.cells os i (by omega)
   have hi' : (i : Int) < ((os.map Sf.Outp.cells).length : Int) := by rw [List.length_map]; omega
   have hi0 : (0 : Int) ≤ (i : Int) := by omega
   have hki : os[i + 1 - 1]? = some (os[i]'(by omega)) := List.getElem?_eq_getElem (by omega)
   rw [show (if i + 1 = 0 then none else os[i + 1 - 1]?.map Sf.Outp.name) = (some (os[i]'(by omega))).map Sf.Outp.name from by rw [if_neg (by omega), hki]] at hit
   obtain ⟨y, hy⟩ : ∃ y, os[i]'(by omega) = y := ⟨_, rfl⟩
   rw [hy] at hit hg2
   obtain ⟨m2, ⟨k2, n2, s2, is2, ks2⟩, b2⟩ := y
   simp only [Sf.Outp.cells] at hg2
   simp only [Option.map_some, Val.badB] at hit
   cases hb : bytesLess m2 m
   ·simp only [hb, Bool.true_and, Bool.and_true, Bool.not_true, Bool.not_false, Bool.false_or, Bool.true_or, if_true] at hit
    (refine AX.run0 (And.intro t1 (And.intro ta (And.intro tb (And.intro tc (And.intro e1 (And.intro h0 (And.intro ej (And.intro hg2 (And.intro hi' (And.intro hi0 hb)))))))))) ?_)
    exact ⟨_, le_refl _, by rw [fj2, ← hit]; rfl⟩
   ·simp only [hb, Bool.true_and, Bool.and_true, Bool.not_true, Bool.not_false, Bool.false_or, Bool.or_false, Bool.false_eq_true, if_false] at hit
    (refine AX.run0 (And.intro t1 (And.intro ta (And.intro tb (And.intro tc (And.intro e1 (And.intro h0 (And.intro ej (And.intro hg2 (And.intro hi' (And.intro hi0 (And.intro hb ei))))))))))) ?_)
    exact ⟨os.length - ((i + 1) + 1), by omega, (i + 1) + 1, l ++ [.cells 98 [.str m, .int .i64 k, .int .i64 n, .str s, .sl 5 .no (V.cellss is), .sl 1 .no (strsA ks), .bool b]], rfl, by omega, rfl, nx hit, by (exact AX.ev0 t1), by (exact AX.ev0 ta), by (exact AX.ev0 tb), by (exact AX.ev0 ei)⟩
 have hlt : ¬ ((j : Int) < (os.length : Int)) := by omega
 rw [List.drop_eq_nil_of_le (by omega)] at hit
 unfold Sf.outsZ at hit
 (refine AX.run0 (And.intro t1 (And.intro ta (And.intro tb (And.intro tc (And.intro hlt (And.intro lm1 (And.intro lm2 lm3))))))) ?_)
 exact ⟨_, le_refl _, by rw [fj2, ← hit]; rfl⟩
end AX
end Go.Proofs.YtnjkemakcejceaaGreatDoor
